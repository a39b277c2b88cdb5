/- More operations, whose outcomes may be several: ranges over maps. -/
import Derived.Test.YtcdgimmdofbjdaaGreatVvK
import Derived.Maps.RangeRun
import Derived.RangeFuncRecord
import Derived.Laws.IdiomStrings
import Derived.OrdersIn
import Derived.CallsIn
set_option linter.all false
open Option renaming some→aa
open Option renaming none→ac
namespace Go.Vv
open Go Go.RowKit Go.Lib

def rR(h:AH)(it id n:Nat)(seen:List Nat)(es:List (AV×AV)):List (AV×AH) :=
 match es.zipIdx.filter λp=>!seen.contains p.2 with
 |[]=>[(.fl [.bool false],h)]
 |p::r=>(p::r).map λp=>(.fl [.bool true,p.1.1,p.1.2],h.put it (.fF id n (seen++[p.2])))
def zb1:List (List AV)->Option (List UInt8)
 |[]=>aa []
 |[.int .u8 n]::r=>if 0<=n/\n<256 then(match zb1 r with
  |some l=>aa (UInt8.ofNat n.toNat::l)
  |none=>ac)else ac
 |_=>ac
def zug(P:Program)(s t:TypeId)(a:AV):Option (List UInt8) :=
 match P.underlying s,P.underlying t with
 |some (.slice e),aa .string=>match P.underlying e,w5 P s a with
  |some (.int .u8),.sl 1 es|some (.int .u8),.gW _ 1 es=>match zb1 es with
   |some l=>if l.length<=maxLen then aa l else ac
   |none=>ac
  |_,_=>ac
 |_,_=>ac
def xN(P:Program)(o:Oper)(env:List AV)(h:AH):Option (List (AV×AH)) :=
 match o.op with
 |.range t x=>if yo x then(match P.underlying t,ev env x with
  |some (.map _ _),.map id=>match h.g7 id with
   |some (.q7 es 0)=>aa [(.ptr h.zh.length 0,h.new (.fF id es.length []))]
   |_=>ac
  |some (.map _ _),.ef=>aa [(.ptr h.zh.length 0,h.new .eQ)]
  |_,_=>ac)else ac
 |.next x false=>if yo x then(match ev env x with
  |.ptr it 0=>match h.g7 it with
   |some .eQ=>aa [(.fl [.bool false],h)]
   |some (.fF id n seen)=>match h.g7 id with
    |some (.q7 es 0)=>if es.length=n then aa (rR h it id n seen es)else ac
    |_=>ac
   |_=>ac
  |_=>ac)else ac
 |.entry x=>if yo x then(match ev env x with
  |.ptr it 0=>match h.g7 it with
   |some (.fF id n seen)=>match h.g7 id,seen.getLast? with
    |some (.q7 es 0),aa i=>if es.length=n then(match es[i]? with
     |some e=>aa [(.fl [e.1,e.2],h)]
     |none=>ac)else ac
    |_,_=>ac
   |_=>ac
  |_=>ac)else ac
 |.buildSlice t n parts=>if parts.all λp=>yo p.2 then(match P.underlying t with
  |some (.slice e)=>match P.info? e,yY P e with
   |some i,aa z=>if 0<n/\0<i.size/\n*i.size<=65536/\z.length=i.size then
     (match (qJ (λj=>aa (j*i.size,i.size)) ((List.replicate n z).flatten) (xS P (.slice e) env parts))with
           |some cs=>match xO cs with
             |some out=>aa [(.fo h.zh.length h.zs.length i.size n,({ h with zs:=h.zs++[n] }:AH).new (.row h.zs.length i.size (rows i.size n out)))]
             |none=>aa [(.cu i.size h.zh.length 0 n,h.new (.cells cs))]
           |none=>ac)else ac
   |_,_=>ac
  |_=>ac)else ac
 |.convert s t x=>if yo x then(match zug P s t (ev env x)with
  |some l=>aa [(.str l,h)]
  |none=>ac)else ac
 |.call c=>match c.callee,c.argTypes.toList,c.args.toList with
  |.builtin .max,_,[x,y]=>if yo x&&yo y then(match ev env x,ev env y with
   |.int k a,.int k' b=>if k=k' then aa [(.int k (if b > a then b else a),h)]else ac
   |_,_=>ac)else ac
  |.builtin .min,_,[x,y]=>if yo x&&yo y then(match ev env x,ev env y with
   |.int k a,.int k' b=>if k=k' then aa [(.int k (if b<a then b else a),h)]else ac
   |_,_=>ac)else ac
  |.builtin .append,[t,u],[s,x]=>if yo s&&yo x then(match P.underlying t,P.underlying u with
   |some (.slice e),aa (.slice _)=>match P.info? e,w5 P t (ev env s),w5 P u (ev env x)with
    |some _,.gW ac k es,.sl _ []|some _,.gW ac k es,.gW _ _ []=>aa [(.gW ac k es,h)]
    |_,_,_=>ac
   |some (.slice e),aa (.int _)=>match P.info? e,yY P e,w5 P t (ev env s),ev env x with
    |some i,aa z,.gW ac k [],.int _ n=>if(i.size=k/\z.length=k/\i.bytes<=65536)/\0<k/\0<n/\n<=(lim:Int)then(match xO z with
     |some z'=>aa [(.fo h.zh.length h.zs.length k n.toNat,({ h with zs:=h.zs++[n.toNat] }:AH).new (.row h.zs.length k (List.replicate n.toNat z')))]
     |none=>ac)else ac
    |_,_,_,_=>ac
   |_,_=>ac)else ac
  |.builtin .cap,[t],[x]=>if yo x then(match P.underlying t,w5 P t (ev env x)with
   |some (.slice _),.gW ac _ es=>aa [(.int .i64 (es.length:Int),h)]
   |_,_=>ac)else ac
  |.builtin .clear,[t],[x]=>if yo x then(match P.underlying t,ev env x with
   |some (.slice e),.ep id tk k n i=>match yY P e,h.g7 id with
    |some z,aa (.row t' k' es)=>if(t'=tk/\k'=k/\es.length=n)/\z.length=k/\0<k then(match xO z with
     |some z'=>aa [(.fl [],h.clr id tk k i es z')]
     |none=>ac)else ac
    |_,_=>ac
   |_,_=>ac)else ac
  |_,_,_=>ac
 |.insert t m k x=>match zj P { o with op:=.mapUpdate t m k x } env h with
  |.ok v h'=>aa [(v,h')]
  |_=>ac
 |.makeInterface t x=>if yo x then(match P.underlying t with
  |some (.interface _)=>ac
  |some _=>aa [(.iface t (w5 P t (ev env x)),h)]
  |none=>ac)else ac
 |.typeAssert x _ t ok=>if yo x then(match P.underlying t,ev env x with
  |some (.interface _),_=>ac
  |some _,.iface u v=>if u=t then aa [(if ok then .fl [v,.bool true]else v,h)]else if ok then(match zpJ P t with
   |some z=>aa [(.fl [z,.bool false],h)]
   |none=>ac)else ac
  |_,_=>ac)else ac
 |.slice t x ac (aa y) ac=>if yo x&&yo y then(match P.underlying t,ev env x,ev env y with
  |some (.slice e),.fo id tk k m,.int _ n=>match P.info? e,h.g7 id with
   |some _,aa (.row t' k' es)=>if(t'=tk/\k'=k/\es.length=m)/\0<=n/\n.toNat<=m then aa [(.fo h.zh.length h.zs.length k n.toNat,h.shr id tk k n.toNat es)]else ac
   |_,_=>ac
  |some (.slice e),.gW ac k [],.int _ n=>match P.info? e with
   |some _=>if n=0 then aa [(.gW ac k [],h)]else ac
   |none=>ac
  |_,_,_=>ac)else ac
 |.slice t x (aa y) ac ac=>if yo x&&yo y then(match P.underlying t,ev env x,ev env y with
  |some (.slice e),.fo id tk k m,.int _ n=>match P.info? e with
   |some i=>if i.size=k/\0<=n/\n.toNat<=m then aa [(.ep id tk k m n.toNat,h)]else ac
   |none=>ac
  |_,_,_=>ac)else ac
 |_=>ac

def zr9:Op->Bool
 |.buildSlice _ _ _|.slice _ _ _ _ _=>false
 |_=>true

section
variable{P:Program}{w:World}{g:Gh}{h:AH}{B:Nat}{w0:World}
theorem Rel.zzI(r:Rel B w0 g h w){a:World}(b:a=w \/ a=w.drew):Rel B w0 g h a:=by
 rcases b with rfl|rfl
 ·exact r
 ·exact r.drew
theorem zib{w:World}{b:Nat}{o:Obj}:ChangeMaps.setBlock w b o=w.putObj b o:=by
 rfl
theorem zhG:∀{es:List (List AV)} {l:List UInt8},zb1 es=aa l->es=l.map λb=>[AV.int .u8 b.toNat]
 |[],l,h=>by simp only[zb1,p5]at h;subst h;rfl
 |e::r,l,h=>by
  unfold zb1 at h;split at h
  ·simp_all
  ·rename_i n i h0;injection h0 with d c;subst d c;split at h
   ·rename_i k;split at h
    ·rename_i j a;simp only[p5]at h;subst h;rw[zhG a];have:((UInt8.ofNat n.toNat).toNat:Int)=n:=by
      have f:n.toNat<256:=by omega
      simp[gu f];omega
     simp_all
    ·cases h
   ·cases h
  ·cases h
theorem znH(r:Rel B w0 g h w){s t e:TypeId}(hs:P.underlying s=aa (.slice e))(q:P.underlying t=aa .string)(u:P.underlying e=aa (.int .u8)){es:List (List AV)}{l:List UInt8}(n:zb1 es=aa l){a:Option Addr}{c:Nat}
  (x:es=[] \/ ∃b o,a=aa ⟨b,o,ac⟩/\VE g b 1 o es):(convert s t (.slice a es.length c)).run P w=.ok (.string ⟨l.toArray⟩) w:=by
 have z:=zhG n;have f:es.length=l.length:=by simp_all
 have key:∀d:Addr,(∀j (A:j<l.length),w.cell? (d.add j)=aa (.int .u8 (l[j].toNat:Int)))->(convert s t (.slice (aa d) es.length c)).run P w=.ok (.string ⟨l.toArray⟩) w:=λd k=>by
  rw[f];exact run_convert_bytes_back w s t e d c l hs u q k
 cases a with
 |none =>
  rcases x with rfl|⟨b,o,i,_⟩
  ·simp only[zb1,p5]at n;subst n;simp[convert,run_underlying hs,run_underlying q,run_underlying u,Conv.bytesToString];rfl
  ·cases i
 |some d =>
  refine key d λj A=>?_;rcases x with rfl|⟨b,o,i,m⟩
  ·grind
  ·injection i with i;subst i;obtain⟨_,k⟩:=m.get j [AV.int .u8 (l[j].toNat:Int)] (by simp_all);simp only[VC]at k;obtain⟨⟨v,y,_,p⟩,_⟩:=k;simp only[V]at p;subst p;have:=r.eK _ _ _ y;rw[show(⟨b,o,ac⟩:Addr).add j=⟨b,o+j,ac⟩ by unfold Addr.add;split<;>simp_all]
   simp_all
theorem zbD(r:Rel B w0 g h w){t e:TypeId}{n:Nat}{i:TypeInfo}{z cs:List AV}{env:List AV}{a:Act}(L:VL g env a.tmps.toList){parts:Array (Nat×Operand)}(A:(parts.all λp=>yo p.2)=true)
  (I:P.underlying t=aa (.slice e)) (hi:P.info? e=aa i) (G:yY P e=aa z) (K:0<n) (c:0<i.size) (J:n*i.size<=65536) (q:z.length=i.size)
  (H:qJ (λj=>aa (j*i.size,i.size)) ((List.replicate n z).flatten) (xS P (.slice e) env parts)=aa cs) :
  ∃u w' g',(Instr.buildSlice t n (parts.map λ(i,x)=>(i,a.eval x))).run P w=.ok u w'/\g.le g'/\Rel B w0 g' (h.new (.cells cs)) w'/\V g' (.cu i.size h.zh.length 0 n) u:=by
 obtain⟨M,m,b,s,f⟩:=qX (g:=g) G;rw[hi]at b;injection b with b;subst b;have y:m.cells.size=i.size:=by rw[<- q,f.length];rfl
 have C:¬(n*i.size=0):=by
  have:=iW K c;omega
 obtain⟨F,D⟩:=ny (P:=P) (d:=.slice e) L A;have l:=VA.flatten f n;obtain⟨xs,v,o⟩:=rm (place':=λj=>aa (j*i.size,i.size)) (λi x h=>h) (us:=(Array.range (n*i.size)).map (m.cells[· % m.cells.size]!))
  (by rw[<- y,ik,iE,px];exact l) F D H
 have k:=run_buildSlice w t e n _ xs i m I hi s (by omega) C v;refine⟨_,_,_,k,g.fd _,r.d6 e o,?_⟩;have E:=r.fi;simp only[V,Gh.ft];exact⟨w.heap.size,n,by grind,rfl,ob _,by simp only[maxLen];have:=iH n c;omega⟩
theorem zlz(r:Rel B w0 g h w){t u ty e:TypeId}{kk:IntKind}{i:TypeInfo}{z F:List AV}(ht:P.underlying t=aa (.slice e))(hu:P.underlying u=aa (.int kk))(hi:P.info? e=aa i)(hz:yY P e=aa z)
  (E:z.length=i.size) (J:i.bytes<=65536) (hk:0<i.size) {a:Option Addr} {k2:IntKind} {n:Int} (hn:0<n) (R:n<=(lim:Int)) (Y:xO z=aa F) :
  ∃v w' g',(Builtin.append_ #[t,u] ty #[.slice a 0 0,.int k2 n]).run P w=.ok v w'/\g.le g'/\Rel B w0 g' (({ h with zs:=h.zs++[n.toNat] }:AH).new (.row h.zs.length i.size (List.replicate n.toNat F))) w'/\V g' (.fo h.zh.length h.zs.length i.size n.toNat) v:=by
 obtain⟨i',D,b,X,N⟩:=qX (g:=g) hz;rw[hi]at b;injection b with b;subst b;have q:D.cells.size=i.size:=by rw[<- E,N.length];rfl
 have o:=(tV N Y).flatten n.toNat
 obtain⟨m,rfl⟩:∃m:Nat,n=(m:Int):=⟨n.toNat,by omega⟩
 simp only[o5]at o ⊢;have H:0<m:=by omega
 unfold lim at R;have hw:IntKind.i64.wrap (m:Int)=(m:Int):=by
  simp only[IntKind.wrap,IntKind.bits,IntKind.signed];simp;omega
 have Z:¬(m*i.size=0):=by have:=iW H hk;omega
 have hmx:¬((281474976710656:Int)<(m:Int)*(i.bytes:Int)):=by
  have h2:m*i.bytes<=140737488355328:=j0 (show m<=2147483648 by omega) J;rw[<- Int.natCast_mul];omega
 have O:¬(281474976710656<Builtin.nextslicecap m 0*i.bytes):=by
  have:=growslice_fits (need:=m) (old:=0) (bytes:=i.bytes) H (by have:=j0 (show m<=2147483648 by omega) J;omega);omega
 have h63:¬(9223372036854775807<(m:Int)):=by omega
 have f:(Builtin.append_ #[t,u] ty #[.slice a 0 0,.int k2 (m:Int)]).run P w=.ok (.slice (aa ⟨w.heap.size,0,ac⟩) m (grownCap w m 0 e))
    (w.drew.alloc (.cells (Builtin.zeroCells D.cells m++Builtin.zeroCells D.cells (grownCap w m 0 e-m)) e)):=by
  have hp:¬((m:Int)<0):=by omega
  have hm3:¬(m=0):=by omega
  cases a<;>simp[Builtin.append_,run_underlying ht,run_underlying hu,sizeOf,typeInfo,zeroValue,hi,X,hw,hp,Z,hm3,hmx,O,h63,newRow,grownCap,Question.forced,asInt,asIntOf,Builtin.firstCells,loadCells,loadCellsFrom]
 have A:=grownCap_ge w m 0 e;have M:grownCap w m 0 e<=maxLen:=grownCap_le_maxLen w _ 0 e (by simp only[maxLen];omega);generalize hC:grownCap w m 0 e=C at f A M;generalize hrow':Builtin.zeroCells D.cells m++Builtin.zeroCells D.cells (C-m)=row at f;have I:row.size=C*i.size:=by
  rw[<- hrow'];simp only[iL,size_zeroCells,q,<- ka]
  simp_all
 have s:(row.toList.drop 0).take (m*i.size)=(List.replicate m D.cells.toList).flatten:=by
  rw[<- hrow',kZ,kU,lU (by simp[size_zeroCells,q]),lh (by simp[size_zeroCells,q])];rw[<- px];simp[Builtin.zeroCells]
 have p:∀j,g.Φ w.heap.size j=ac:=λj=>by
  rcases he:g.Φ w.heap.size j with _|v
  ·rfl
  ·exact absurd (r.em he) (ji _)
 have r1:=(r.drew).eS (.cells row e);have d:(w.drew.alloc (.cells row e)).heap[w.heap.size]?=aa (.cells row e (0,0)):=heap_alloc_new w.drew _;have hloc:ed g.Φ B (w.drew.alloc (.cells row e)) w.heap.size (m*i.size) (C*i.size) :=
  ⟨r.dA,by simp,⟨row,e,d,by omega⟩,λj _=>p j⟩
 have G:∀(j U:Nat),g.σ[j]?=aa (aa U)->w.heap.size≠U:=λj U S e=>by
  have b:j<h.zh.length:=by rw[<- r.fi];exact(tu.1 S).1
  have:=(r.g7 j U _ S (rk b)).2.1;omega
 have Q:∀(j:Nat)(W:TI) (y:Nat×Nat),g.τ[j]?=aa W->W.loc≠aa (w.heap.size,y):=λj W y S e=>by
  have:=((r.tok j W S).2 _ _ _ e).lt;omega
 let T:TI:=⟨m,aa (w.heap.size,m*i.size,C*i.size),true⟩
 have hT:((g.fI T).ft ac).τ[g.τ.length]?=aa T:=by simp[Gh.fI,Gh.ft]
 have K:g.le ((g.fI T).ft ac):=(g.fu T).trans (Gh.fd _ ac);have L:F.length=i.size:=(tW Y).trans E;have c:(List.replicate m F).length=m:=by simp
 have r2:=r1.ey T i.size (List.replicate m F)
  (λb' l e' hl'=>by grind)
  (λb' x k=>by injection k with k;injection k with e1 _;subst e1;exact⟨Q,G⟩)
  ⟨T,hT,rfl,c.symm,λe he=>by rw[iA he];exact L,by
   have:=rt Y;rw[oB]at this ⊢;intro x k;obtain⟨l,hl,k⟩:=gw.1 k;rw[iA hl]at k;exact this x k,.inr ⟨w.heap.size,0,C*i.size,row,e,by simp[T],d,by
   rw[c,s];exact o.mono K,by rw[c,I];simpa using lY i.size A,λj _=>p j⟩⟩
 have tl:=r.fA;have sl:=r.fi;rw[tl]at r2;refine⟨_,_,_,f,K,r2,?_⟩;simp only[V];rw[<- tl];exact⟨aa ⟨w.heap.size,0,ac⟩,C,rfl,A,M,T,hT,rfl,ob _,.inr ⟨w.heap.size,0,rfl,λ_=>by simp[T]⟩⟩
theorem zbC(r:Rel B w0 g h w){t e:TypeId}{n:Nat}{i:TypeInfo}{z cs out:List AV}{env:List AV}{a:Act}(X:VL g env a.tmps.toList){parts:Array (Nat×Operand)}(W:(parts.all λp=>yo p.2)=true)
  (hu:P.underlying t=aa (.slice e)) (hi:P.info? e=aa i) (hz:yY P e=aa z) (hn:0<n) (f:0<i.size) (hsm:n*i.size<=65536) (C:z.length=i.size)
  (hf:qJ (λj=>aa (j*i.size,i.size)) ((List.replicate n z).flatten) (xS P (.slice e) env parts)=aa cs) (Z:xO cs=aa out) :
  ∃u w' g',(Instr.buildSlice t n (parts.map λ(i,x)=>(i,a.eval x))).run P w=.ok u w'/\g.le g'/\Rel B w0 g' (({ h with zs:=h.zs++[n] }:AH).new (.row h.zs.length i.size (rows i.size n out))) w'/\V g' (.fo h.zh.length h.zs.length i.size n) u:=by
 obtain⟨i',J,b,O,D⟩:=qX (g:=g) hz;rw[hi]at b;injection b with b;subst b;have U:J.cells.size=i.size:=by rw[<- C,D.length];rfl
 have Y:¬(n*i.size=0):=by
  have:=iW hn f;omega
 obtain⟨h1,h2⟩:=ny (P:=P) (d:=.slice e) X W;have F:=VA.flatten D n;obtain⟨xs,Q,M⟩:=rm (place':=λj=>aa (j*i.size,i.size)) (λi x h=>h) (us:=(Array.range (n*i.size)).map (J.cells[· % J.cells.size]!))
  (by rw[<- U,ik,iE,px];exact F) h1 h2 hf
 have m:=tV M Z;have q:out.length=n*i.size:=by
  rw[tW Z,zdQ hf];simp[C]
 have N:xs.size=n*i.size:=by rw[<- q,m.length];rfl
 have E:=run_buildSlice w t e n _ xs i J hu hi O (by omega) Y Q;obtain⟨L,R,e3⟩:=np (k:=i.size) n out q;have r1:=r.eS (.cells xs e);have c:(w.alloc (.cells xs e)).heap[w.heap.size]?=aa (.cells xs e (0,0)):=heap_alloc_new w _;have o:∀j,g.Φ w.heap.size j=ac:=λj=>by
  rcases X:g.Φ w.heap.size j with _|v
  ·rfl
  ·exact absurd (r.em X) (ji _)
 have hloc:ed g.Φ B (w.alloc (.cells xs e)) w.heap.size (n*i.size) (n*i.size) :=
  ⟨r.dA,by simp,⟨xs,e,c,by omega⟩,λj _=>o j⟩
 have A:∀(j H:Nat),g.σ[j]?=aa (aa H)->w.heap.size≠H:=λj H K e=>by
  have b:j<h.zh.length:=by rw[<- r.fi];exact(tu.1 K).1
  have:=(r.g7 j H _ K (rk b)).2.1;omega
 have s:∀(j:Nat)(I:TI) (y:Nat×Nat),g.τ[j]?=aa I->I.loc≠aa (w.heap.size,y):=λj I y K e=>by
  have:=((r.tok j I K).2 _ _ _ e).lt;omega
 let T:TI:=⟨n,aa (w.heap.size,n*i.size,n*i.size),true⟩
 have hT:((g.fI T).ft ac).τ[g.τ.length]?=aa T:=by simp[Gh.fI,Gh.ft]
 have G:g.le ((g.fI T).ft ac):=(g.fu T).trans (Gh.fd _ ac);have r2:=r1.ey T i.size (rows i.size n out)
  (λb' l e' hl'=>by grind)
  (λb' x S=>by injection S with S;injection S with L _;subst L;exact⟨s,A⟩)
  ⟨T,hT,rfl,R.symm,e3,by rw[L];exact rt Z,.inr ⟨w.heap.size,0,n*i.size,xs,e,by simp[T,R],c,by
   rw[L,R,kZ,lh (by simp[N])];exact m.mono G _ _,by grind,λj _=>o j⟩⟩
 have tl:=r.fA;have sl:=r.fi;rw[tl]at r2;refine⟨_,_,_,E,G,r2,?_⟩;simp only[V];rw[<- tl];exact⟨aa ⟨w.heap.size,0,ac⟩,n,rfl,ob _,by simp only[maxLen];have:=iH n f;omega,T,hT,rfl,ob _,.inr ⟨w.heap.size,0,rfl,λ_=>by simp[T]⟩⟩
theorem zsc{t u ty e f:TypeId}{i:TypeInfo}{a b:Option Addr}{n c m:Nat}(d:P.underlying t=aa (.slice e))(j:P.underlying u=aa (.slice f))(hi:P.info? e=aa i)(k:n<=m) :
  (Builtin.append_ #[t,u] ty #[.slice a n m,.slice b 0 c]).run P w=.ok (.slice a n m) w:=by
 cases a<;>cases b<;>simp[Builtin.append_,run_underlying d,run_underlying j,sizeOf,typeInfo,hi,Builtin.lenOf,Builtin.firstCells,loadCells,loadCellsFrom,storeCells,k]
theorem zxg(r:Rel B w0 g h w){a:Act}{env:List AV}(L:VL g env a.tmps.toList){o:Oper}{l:List (AV×AH)}(f:xN P o env h=aa l):∃p∈l,tC P B w0 g a o w p.1 p.2:=by
 unfold xN at f;split at f
 ·-- range
  rename_i t x G;split at f
  ·rename_i A;have I:=V.ev L A;split at f
   ·rename_i kt et id K D;split at f
    ·rename_i es O;simp only[p5]at f;subst f;refine⟨_,la.2 rfl,?_⟩;rw[D]at I;simp only[V]at I;obtain⟨c,J,U⟩:=I;obtain⟨hB,hlt,⟨ents,n,k1,k2,k3⟩,_⟩:=r.g7 id c _ J O;obtain⟨rfl,k4⟩:=k3 rfl;have Z:ents.size=es.length:=by have:=k2.len;simpa using this
     refine⟨.pointer (aa ⟨w.heap.size,0,ac⟩),w.alloc (.mapIter (aa c) ents.size #[] ents.size),g.ft w.heap.size,.inl ?_,g.fd _,r.dD _ _ ?_,?_⟩
     ·simp[execOp,G,U,run_range_map w t kt et c ents _ K k1]
     ·exact⟨c,(g.fd _).sig _ _ J,by rw[<- Z];exact heap_alloc_new w _⟩
     ·have hsl:=r.fi;simp only[V,Gh.ft]
      simp_all
    ·cases f
   ·rename_i kt et K D;simp only[p5]at f;subst f;refine⟨_,la.2 rfl,?_⟩;rw[D]at I;simp only[V]at I;refine⟨.pointer (aa ⟨w.heap.size,0,ac⟩),w.alloc (.mapIter ac 0 #[] 0),g.ft w.heap.size,.inl ?_,g.fd _,r.dD _ _ (heap_alloc_new w _),?_⟩
    ·simp[execOp,G,I,run_range_nilMap w t kt et K]
    ·have hsl:=r.fi;simp only[V,Gh.ft]
     simp_all
   ·cases f
  ·cases f
 ·-- next
  rename_i x G;split at f
  ·rename_i A;have I:=V.ev L A;split at f
   ·rename_i it D;rw[D]at I;simp only[V]at I;obtain⟨ci,hci,U⟩:=I;split at f
    ·rename_i O;simp only[p5]at f;subst f;refine⟨_,la.2 rfl,?_⟩;obtain⟨_,_,k1,_⟩:=r.g7 it ci _ hci O;have k1:w.heap[ci]?=aa (.mapIter ac 0 #[] 0):=k1;refine⟨.tuple #[.bool false],w,g,.inl ?_,Gh.le.refl g,r,by simp[V,VL]⟩;simp[execOp,G,U,Instr.next,getObj,Sem.run,k1]
    ·rename_i id n seen O;split at f
     ·rename_i es hbm;split at f
      ·rename_i hn;simp only[p5]at f;obtain⟨_,hltI,⟨cm,N,hit⟩,_⟩:=r.g7 it ci _ hci O;obtain⟨_,_,⟨ents,m,k1,k2,k3⟩,_⟩:=r.g7 id cm _ N hbm;obtain⟨rfl,k4⟩:=k3 rfl;have Z:ents.size=es.length:=by have:=k2.len;simpa using this
       have hold:∀x∈ents.toList,x.born<n:=λx D=>by
        obtain⟨i,hi⟩:=lz.1 D
        grind
       rcases run_next_at (P:=P) w o.type ci cm n n seen.toArray ents ents.size hit k1 hold (ob _)with⟨h0,T⟩|⟨e,hmem,w1,hw1,T⟩
       ·have hnil:es.zipIdx.filter (λp=>!seen.contains p.2)=[]:=by
         rw[kH]
         rintro⟨p,i⟩ hp
         simp only[jp,Bool.not_eq_false'];have hp':=List.mem_zipIdx' hp;obtain⟨e,he1,_,_⟩:=k2.aD (j:=i) (p:=p) (by simp_all);rw[lr]at he1;have X:=k4 i e he1;have:¬e∈leftOf ents seen.toArray:=by
          simp_all
         simp only[leftOf,Array.mem_filter,not_and,kb,gn]at this
         grind
        rw[rR,hnil]at f;subst f;refine⟨_,la.2 rfl,.tuple #[.bool false],w,g,.inl ?_,Gh.le.refl g,r,by simp[V,VL]⟩;simp[execOp,G,U,T]
       ·simp only[leftOf,Array.toList_filter,lQ]at hmem;obtain⟨i,hi⟩:=lz.1 hmem.1;have hi':=hi;rw[lr]at hi';have X:=k4 i e hi';have hil:i<es.length:=by grind
        have hes:es[i]?=aa es[i]:=rk hil;obtain⟨e2,he2,hk,hv⟩:=k2.aD (j:=i) hes;rw[hi]at he2;injection he2 with he2;subst he2;have hin:(es[i],i)∈es.zipIdx.filter (λp=>!seen.contains p.2):=by
         grind
        have r1:=r.zzI hw1;have hit1:w1.heap[ci]?=aa (.mapIter (aa cm) n seen.toArray n):=by rcases hw1 with rfl|rfl<;>exact hit
        have r2:Rel B w0 g (h.put it (.fF id n (seen++[i]))) (w1.putObj ci (.mapIter (aa cm) n (seen.toArray.push e.born) n)) :=
         r1.putObj hci O (by simp) rfl rfl rfl World.putObj_size (λb hb'=>World.putObj_heap_other hb') ⟨cm,N,by
          rw[World.putObj_heap_same (by grind),X];simp⟩
        have hne:es.zipIdx.filter (λp=>!seen.contains p.2)≠[]:=List.ne_nil_of_mem hin;have hal:((.fl [.bool true,es[i].1,es[i].2],h.put it (.fF id n (seen++[i]))):AV×AH)∈rR h it id n seen es:=by
         unfold rR
         grind
        subst f;refine⟨_,hal,.tuple #[.bool true,e.key,e.val],_,g,.inl ?_,Gh.le.refl g,r2,?_⟩
        ·rw[<- Z]at hn;simp only[execOp,G,U,Sem.run_bind,T,Result.andThen_ok,Sem.run_pure];rw[zib,hn]
        ·simp only[V,VL]
         grind
      ·cases f
     ·cases f
    ·cases f
   ·cases f
  ·cases f
 ·-- entry
  rename_i x G;split at f
  ·rename_i A;have I:=V.ev L A;split at f
   ·rename_i it D;rw[D]at I;simp only[V]at I;obtain⟨ci,hci,U⟩:=I;split at f
    ·rename_i id n seen O;split at f
     ·rename_i es i hbm hlast;split at f
      ·rename_i hn;split at f
       case h_2=>cases f
       rename_i p hp;simp only[p5]at f;subst f;refine⟨_,la.2 rfl,?_⟩;obtain⟨_,hltI,⟨cm,N,hit⟩,_⟩:=r.g7 it ci _ hci O;obtain⟨_,_,⟨ents,m,k1,k2,k3⟩,_⟩:=r.g7 id cm _ N hbm;obtain⟨rfl,k4⟩:=k3 rfl;have Z:ents.size=es.length:=by have:=k2.len;simpa using this
       obtain⟨e,he1,hk,hv⟩:=k2.aD (j:=i) hp;have he1':=he1;rw[lr]at he1';have X:=k4 i e he1';have hseen:seen.toArray=seen.dropLast.toArray.push e.born:=by
        grind
       rw[hseen]at hit;have hnd:(ents.toList.map (·.born)).Nodup:=by
        have:ents.toList.map (·.born)=List.range ents.size:=by
         apply lT
         grind
        grind
       have T:=run_entry_at (P:=P) w ci cm n seen.dropLast.toArray ents ents.size e (by grind) k1 (Array.mem_toList_iff.2 (Array.mem_of_getElem? he1')) hnd;refine⟨.tuple #[e.key,e.val],w,g,.inl ?_,Gh.le.refl g,r,?_⟩
       ·simp[execOp,G,U,T]
       ·simp only[V,VL]
        grind
      ·cases f
     ·cases f
    ·cases f
   ·cases f
  ·cases f
 ·-- buildSlice
  rename_i t n parts G;split at f
  ·rename_i A;split at f
   ·rename_i e hu;split at f
    ·rename_i i z hi hz;split at f
     ·rename_i J;split at f
      ·rename_i cs hf;split at f
       ·rename_i out hcl;simp only[p5]at f;subst f;obtain⟨u,w',g',Q,R,h3,h4⟩:=zbC r L A hu hi hz J.1 J.2.1 J.2.2.1 J.2.2.2 hf hcl;exact⟨_,la.2 rfl,u,w',g',.inl (by simp[execOp,G,Q]),R,h3,h4⟩
       ·simp only[p5]at f;subst f;obtain⟨u,w',g',Q,R,h3,h4⟩:=zbD r L A hu hi hz J.1 J.2.1 J.2.2.1 J.2.2.2 hf;exact⟨_,la.2 rfl,u,w',g',.inl (by simp[execOp,G,Q]),R,h3,h4⟩
      ·cases f
     ·cases f
    ·cases f
   ·cases f
  ·cases f
 ·-- convert
  rename_i s t x G;split at f
  ·rename_i A;have I:=(V.ev L A).w5 (P:=P) (t:=s);split at f
   case h_2=>cases f
   rename_i l0 F;simp only[p5]at f;subst f;unfold zug at F;split at F
   ·rename_i e hs K;have S:∀es l,P.underlying e=aa (.int .u8)->zb1 es=aa l->l.length<=maxLen->(∃H c,a.eval x=.slice H es.length c/\(es=[] \/ ∃b o,H=aa ⟨b,o,ac⟩/\VE g b 1 o es))->tC P B w0 g a o w (.str l) h:=by
     rintro es l hu O hm ⟨H,c,D,hve⟩
     refine⟨.string ⟨l.toArray⟩,w,g,.inl ?_,Gh.le.refl g,r,by simp only[V];exact⟨trivial,hm⟩⟩;simp[execOp,G,D,znH r hs K hu O hve]
    split at F
    ·rename_i es hu D;rw[D]at I;simp only[V]at I;obtain⟨H,c,Q,_,_,R⟩:=I;split at F
     ·rename_i l O;split at F
      ·rename_i hm;simp only[p5]at F;subst F;exact⟨_,la.2 rfl,S _ _ hu O hm ⟨H,c,Q,R⟩⟩
      ·cases F
     ·cases F
    ·rename_i es q hu D;rw[D]at I;simp only[V]at I;obtain⟨H,c,Q,_,_,R,_⟩:=I;split at F
     ·rename_i l O;split at F
      ·rename_i hm;simp only[p5]at F;subst F;exact⟨_,la.2 rfl,S _ _ hu O hm ⟨H,c,Q,R⟩⟩
      ·cases F
     ·cases F
    ·cases F
   ·cases F
  ·cases f
 ·-- append
  rename_i c G;split at f
  ·rename_i ts x y J has;split at f
   ·rename_i A;simp only[tx]at A;have M:c.args=#[x,y]:=by grind
    have C:=V.ev L A.1;have E:=V.ev L A.2;split at f
    ·rename_i k1 a1 k2 b1 D hy;split at f
     ·rename_i hk;subst hk;simp only[p5]at f;subst f;rw[D]at C;rw[hy]at E;simp only[V]at C E;refine⟨_,la.2 rfl,.int k1 (if b1 > a1 then b1 else a1),w,g,.inl ?_,Gh.le.refl g,r,by simp only[V]⟩;simp only[execOp,G,resolve,J,Sem.run_bind,Sem.run_pure,Result.andThen_ok,invoke,M];simp[builtin,C,E,run_max_int2]
     ·cases f
    ·cases f
   ·cases f
  ·rename_i ts x y J has;split at f
   ·rename_i A;simp only[tx]at A;have M:c.args=#[x,y]:=by grind
    have C:=V.ev L A.1;have E:=V.ev L A.2;split at f
    ·rename_i k1 a1 k2 b1 D hy;split at f
     ·rename_i hk;subst hk;simp only[p5]at f;subst f;rw[D]at C;rw[hy]at E;simp only[V]at C E;refine⟨_,la.2 rfl,.int k1 (if b1<a1 then b1 else a1),w,g,.inl ?_,Gh.le.refl g,r,by simp only[V]⟩;simp only[execOp,G,resolve,J,Sem.run_bind,Sem.run_pure,Result.andThen_ok,invoke,M];simp[builtin,C,E,run_min_int2]
     ·cases f
    ·cases f
   ·cases f
  ·rename_i t u s x J hts has;split at f
   ·rename_i A;simp only[tx]at A;have hta:c.argTypes=#[t,u]:=by grind
    have M:c.args=#[s,x]:=by grind
    have W:=(V.ev L A.1).w5 (P:=P) (t:=t);have C:=(V.ev L A.2).w5 (P:=P) (t:=u);split at f
    ·rename_i e e' K hu;have S:∀i k es,P.info? e=aa i->w5 P t (ev env s)=.gW ac k es->(∃H c,a.eval x=.slice H 0 c)->tC P B w0 g a o w (.gW ac k es) h:=by
      rintro i k es hi hs ⟨H,c2,D⟩
      rw[hs]at W;have hV2:=W;simp only[V]at W;obtain⟨a1,c1,hs1,Q,_⟩:=W;refine⟨a.eval s,w,g,.inl ?_,Gh.le.refl g,r,hV2⟩;simp only[execOp,G,resolve,J,Sem.run_bind,Sem.run_pure,Result.andThen_ok,invoke,hta,M];simp only[builtin,Array.map,hs1];simp[zsc K hu hi Q,hs1,D]
     split at f
     ·rename_i i k es q hi hs D;simp only[p5]at f;subst f;refine⟨_,la.2 rfl,S _ k es hi hs ?_⟩;rw[D]at C;simp only[V]at C
      grind
     ·rename_i i k es q q2 hi hs D;simp only[p5]at f;subst f;refine⟨_,la.2 rfl,S _ k es hi hs ?_⟩;rw[D]at C;simp only[V]at C
      grind
     ·cases f
    ·rename_i e kk K hu;split at f
     ·rename_i i z k k2 n hi hz hs D;split at f
      ·rename_i hcd;obtain⟨⟨rfl,hzl,hby⟩,hk,hn,hlim⟩:=hcd;split at f
       ·rename_i z' hcl;simp only[p5]at f;subst f;rw[hs]at W;have C:=V.ev L A.2;rw[D]at C;simp only[V]at W C;obtain⟨a1,c1,hs1,_,_,_,h5⟩:=W;have h5:c1=0:=h5;subst h5;obtain⟨v,w',g',Q,R,h3,h4⟩:=zlz (ty:=o.type) r K hu hi hz hzl hby hk (a:=a1) (k2:=k2) hn hlim hcl;refine⟨_,la.2 rfl,v,w',g',.inl ?_,R,h3,h4⟩;simp only[execOp,G,resolve,J,Sem.run_bind,Sem.run_pure,Result.andThen_ok,invoke,hta,M];simp only[builtin,Array.map];simp[hs1,C,Q]
       ·cases f
      ·cases f
     ·cases f
    ·cases f
   ·cases f
  ·rename_i t x J hts has;split at f
   ·rename_i A;have hta:c.argTypes=#[t]:=by grind
    have M:c.args=#[x]:=by grind
    have C:=(V.ev L A).w5 (P:=P) (t:=t);split at f
    ·rename_i e q es K D;simp only[p5]at f;subst f;rw[D]at C;simp only[V]at C;obtain⟨a1,c1,hs1,_,N,_,h5⟩:=C;have h5:c1=es.length:=h5;subst h5;refine⟨_,la.2 rfl,.int .i64 (es.length:Int),w,g,.inl ?_,Gh.le.refl g,r,by simp only[V]⟩;simp only[execOp,G,resolve,J,Sem.run_bind,Sem.run_pure,Result.andThen_ok,invoke,hta,M];simp only[maxLen]at N;simp[builtin,Builtin.cap_,run_underlying K,hs1,goInt]
    ·cases f
   ·cases f
  ·rename_i t x J hts has;split at f
   ·rename_i A;have hta:c.argTypes=#[t]:=by grind
    have M:c.args=#[x]:=by grind
    have C:=V.ev L A;split at f
    ·rename_i e id tk k n i K D;split at f
     ·rename_i z t' k' es hz O;split at f
      ·rename_i hcd;obtain⟨⟨rfl,rfl,rfl⟩,hzl,hk0⟩:=hcd;split at f
       ·rename_i z' hcl;simp only[p5]at f;subst f;rw[D]at C;obtain⟨w',Q,R⟩:=zi4 (P:=P) (ty:=o.type) r K hz hcl hzl hk0 O rfl C;refine⟨_,la.2 rfl,.tuple #[],w',g,.inl ?_,Gh.le.refl g,R,by simp[V,VL]⟩;simp only[execOp,G,resolve,J,Sem.run_bind,Sem.run_pure,Result.andThen_ok,invoke,hta,M];simp[builtin,Q]
       ·cases f
      ·cases f
     ·cases f
    ·cases f
   ·cases f
  ·cases f
 ·-- insert
  rename_i t m k x G;split at f
  ·rename_i v h' hs;simp only[p5]at f;subst f;refine⟨_,la.2 rfl,?_⟩;have:=zeY (P:=P) r L { o with op:=.mapUpdate t m k x };rw[hs]at this;obtain⟨u,w',g',Q,R⟩:=this;refine⟨u,w',g',?_,R⟩;simpa only[execOp,G]using Q
  ·cases f
 ·-- makeInterface
  rename_i t x G;split at f
  ·rename_i A;have I:=(V.ev L A).w5 (P:=P) (t:=t);split at f
   ·cases f
   ·rename_i d hne hd;simp only[p5]at f;subst f;refine⟨_,la.2 rfl,.iface t (a.eval x),w,g,.inl ?_,Gh.le.refl g,r,?_⟩
    ·have:(Instr.makeInterface t (a.eval x)).run P w=.ok (.iface t (a.eval x)) w:=by
      simp only[Instr.makeInterface,Sem.run_bind,run_underlying hd,Result.andThen_ok];simp
     simp[execOp,G,this]
    ·simp only[V];exact⟨_,rfl,I⟩
   ·cases f
  ·cases f
 ·-- typeAssert
  rename_i x xt t ok G;split at f
  ·rename_i A;have I:=V.ev L A;split at f
   ·cases f
   ·rename_i d u v hne hd D;rw[D]at I;simp only[V]at I;obtain⟨y,hy,hv⟩:=I;split at f
    ·rename_i hut;subst hut;simp only[p5]at f;subst f;refine⟨_,la.2 rfl,if ok then .tuple #[y,.bool true]else y,w,g,.inl ?_,Gh.le.refl g,r,?_⟩
     ·have:(Instr.typeAssert (.iface u y) xt u ok).run P w=.ok (if ok then .tuple #[y,.bool true]else y) w:=by
       simp only[Instr.typeAssert,Sem.run_bind,run_underlying hd,Result.andThen_ok];rfl
      simp[execOp,G,hy,this]
     ·cases ok
      ·exact hv
      ·simp only[oS,V,VL]
       simp_all
    ·rename_i hut;split at f
     ·rename_i hk;subst hk;split at f
      ·rename_i z hz;simp only[p5]at f;subst f;obtain⟨zv,hz1,hz2⟩:=zdO (P:=P) (w:=w) (g:=g) hz;refine⟨_,la.2 rfl,.tuple #[zv,.bool false],w,g,.inl ?_,Gh.le.refl g,r,?_⟩
       ·have:(Instr.typeAssert (.iface u y) xt t true).run P w=.ok (.tuple #[zv,.bool false]) w:=by
         simp only[Instr.typeAssert,Sem.run_bind,run_underlying hd,Result.andThen_ok]
         simp_all
        simp[execOp,G,hy,this]
       ·simp only[V,VL]
        simp_all
      ·cases f
     ·cases f
   ·cases f
  ·cases f
 ·-- a row is cut
  rename_i t x y G;split at f
  ·rename_i A;simp only[tx]at A;have C:=V.ev L A.1;have E:=V.ev L A.2;split at f
   ·rename_i e id tk k m kk n K D hy;split at f
    ·rename_i i t' k' es hi O;split at f
     ·rename_i J;obtain⟨⟨rfl,rfl,rfl⟩,hn0,hnm⟩:=J;simp only[p5]at f;subst f;rw[D]at C;rw[hy]at E;have hVx2:=C;simp only[V]at C E;obtain⟨H,c,Y,hnc,N,_⟩:=C;rw[Y]at hVx2;obtain⟨g',Q,R,h3⟩:=r.shrink (n:=n.toNat) (a':=if c=0 then H else H.map (·.add (0*i.size))) O hnm (by grind) hVx2;refine⟨_,la.2 rfl,_,w,g',.inl ?_,Q,R,h3⟩;have hbd:=sd (P:=P) (w:=w) (isS:=true) (len:=es.length) (cap:=c) (l:=0) (hh:=n.toNat) (m:=c) (d:=0) (lo:=ac) (hi:=aa (.int kk n)) (mx:=ac) (.inl ⟨rfl,rfl⟩)
       (.inr ⟨kk,n,rfl,hn0,by omega⟩) (.inl ⟨rfl,rfl⟩) (lV _) (by omega) (ob _) rfl
      have:(Instr.sliceAt t (.slice H es.length c) ac (aa (.int kk n)) ac).run P w=.ok (.slice (if c=0 then H else H.map (·.add (0*i.size))) n.toNat c) w:=by
       rw[pN K (by simp)];simp[Instr.slice,yn K,hbd,wF hi]
      simp[execOp,G,Y,E,this]
     ·cases f
    ·cases f
   ·rename_i e k kk n K D hy;split at f
    ·rename_i i hi;split at f
     ·rename_i h0;subst h0;simp only[p5]at f;subst f;rw[D]at C;rw[hy]at E;simp only[V]at C E;obtain⟨H,c,Y,_,N,_,h5⟩:=C;have h5:c=0:=h5;subst h5;refine⟨_,la.2 rfl,.slice H 0 0,w,g,.inl ?_,Gh.le.refl g,r,?_⟩
      ·have hbd:=sd (P:=P) (w:=w) (isS:=true) (len:=0) (cap:=0) (l:=0) (hh:=0) (m:=0) (d:=0) (lo:=ac) (hi:=aa (.int kk 0)) (mx:=ac) (.inl ⟨rfl,rfl⟩)
        (.inr ⟨kk,0,rfl,by omega,by omega⟩) (.inl ⟨rfl,rfl⟩) (lV _) (by omega) (ob _) rfl
       have:(Instr.sliceAt t (.slice H 0 0) ac (aa (.int kk 0)) ac).run P w=.ok (.slice H 0 0) w:=by
        rw[pN K (by simp)];simp[Instr.slice,yn K,hbd,wF hi]
       simp only[lC]at Y;simp[execOp,G,Y,E,this]
      ·simp only[V];exact⟨H,0,rfl,ob _,N,.inl trivial,rfl⟩
     ·cases f
    ·cases f
   ·cases f
  ·cases f
 ·-- a row's end
  rename_i t x y G;split at f
  ·rename_i A;simp only[tx]at A;have C:=V.ev L A.1;have E:=V.ev L A.2;split at f
   ·rename_i e id tk k m kk n K D hy;split at f
    ·rename_i i hi;split at f
     ·rename_i J;obtain⟨rfl,hn0,hnm⟩:=J;simp only[p5]at f;subst f;rw[D]at C;rw[hy]at E;simp only[V]at C E;obtain⟨H,c,Y,hnc,N,tt,htt,hrd,hle,hhd⟩:=C;refine⟨_,la.2 rfl,.slice (if c=n.toNat then H else H.map (·.add (n.toNat*i.size))) (m-n.toNat) (c-n.toNat),w,g,.inl ?_,Gh.le.refl g,r,?_⟩
      ·have hbd:=sd (P:=P) (w:=w) (isS:=true) (len:=m) (cap:=c) (l:=n.toNat) (hh:=m) (m:=c) (d:=0) (lo:=aa (.int kk n)) (hi:=ac) (mx:=ac) (.inr ⟨kk,n,rfl,hn0,by omega⟩)
        (.inl ⟨rfl,rfl,rfl⟩) (.inl ⟨rfl,rfl⟩) hnm hnc (ob _) rfl
       have:(Instr.sliceAt t (.slice H m c) (aa (.int kk n)) ac ac).run P w=.ok (.slice (if c=n.toNat then H else H.map (·.add (n.toNat*i.size))) (m-n.toNat) (c-n.toNat)) w:=by
        rw[pN K (by simp)];simp[Instr.slice,yn K,hbd,wF hi]
       simp[execOp,G,Y,E,this]
      ·simp only[V];refine⟨_,_,rfl,⟨hnm,by omega⟩,tt,htt,?_⟩;by_cases h0:m-n.toNat=0
       ·omega
       ·right;rcases hhd with⟨Q,_⟩|⟨b,o2,R,h3⟩
        ·omega
        ·have hcn:¬c=n.toNat:=by omega
         refine⟨b,o2+n.toNat*i.size,?_,hrd,hle,λhe'=>⟨o2,_,rfl,h3 he'⟩⟩;rw[n4 hcn,R];simp[vm]
     ·cases f
    ·cases f
   ·cases f
  ·cases f
 ·cases f
end
end Go.Vv
namespace Go.Vv
open Go Go.RowKit
def zwO(_:Program)(_:World):Prop:=True
theorem zlb{P:Program}{B:Nat}{w0 w:World}(_:zwO P w0)(_:w0.heap.size<=B)(_:Below B w0 w):zwO P w:=trivial
end Go.Vv
namespace Go.Vv
open Go Go.RowKit Go.Lib
variable{ops:Array Oper}{Q:List AV->AH->Prop}{o:Oper}{rest:List Oper}{env:List AV}{h:AH}{a:Act}{w:World}{next:Act->World->Prop}{K:AV->AH->Prop}

class GOk(P:Program)(B:Nat)(w0:World):Prop where
 sh:w0.ShapedOpen P
 sz:w0.heap.size<=B
 lay:zwO P w0
def Spec(P:Program)(f:FuncId)(args:List AV)(h:AH)(K:AV->AH->Prop):Prop :=
 (∀(vs:Array Value)(w:World),(callFunc f vs).run P w=.ok (.enter f vs) w) /\
 ∀(B:Nat)(w0:World) [GOk P B w0] (g:Gh) (w:World) (vs:Array Value),Rel B w0 g h w->VL g args vs.toList ->
  Calls P f vs w λe w'=>∃v r h' g',e=.returned v/\K r h'/\g.le g'/\Rel B w0 g' h' w'/\V g' r v

def ez(P:Program)(id:Nat)(args:List AV)(h:AH)(K:AV->AH->Prop):Prop :=
 ∀(B:Nat)(w0:World) [GOk P B w0] (g:Gh) (w:World) (vs:Array Value) (c:Nat),Rel B w0 g h w->VL g args vs.toList->g.σ[id]?=aa c ->
  ∃fn tmps assign body,(Instr.yield c vs).run P w=.ok (.round c fn tmps assign body) w /\
   ∀n,RoundIn Fence.wide n P c fn tmps assign body w λe w'=>∃v r h' g',e=.returned v/\K r h'/\g.le g'/\Rel B w0 g' h' w'/\V g' r v

theorem Spec.mono{P:Program}{f:FuncId}{args:List AV}{h:AH}{K K':AV->AH->Prop}(s:Spec P f args h K)(d:∀r b,K r b->K' r b):Spec P f args h K' :=
 ⟨s.1,λB w0 _ g w vs r j=>(s.2 B w0 g w vs r j).mono λ_ _ ⟨v,x,b,g',e,c,i⟩=>⟨v,x,b,g',e,d _ _ c,i⟩⟩

theorem ez.mono{P:Program}{id:Nat}{args:List AV}{h:AH}{K K':AV->AH->Prop}(s:ez P id args h K)(f:∀r b,K r b->K' r b):ez P id args h K' :=
 λB w0 _ g w vs c r j k=>by
  obtain⟨fn,tmps,assign,body,e,d⟩:=s B w0 g w vs c r j k;exact⟨fn,tmps,assign,body,e,λn=>(d n).mono λ_ _ ⟨v,x,b,g',e,d,i⟩=>⟨v,x,b,g',e,f _ _ d,i⟩⟩

def aG(ops:Array Oper)(o:Oper)(env:List AV):Option Bool :=
 match o.guard with
 |none=>aa true
 |some (j,want)=>match (ops[j]?).bind (·.dst)with
  |none=>aa false
  |some d=>match env[d]? with
   |none=>aa false
   |some (.bool b)=>aa (b==want)
   |some (.fl [])=>aa false
   |some _=>ac

def bm(P:Program)(h:AH)(r:Res)(K:AV->AH->Prop):Prop :=
 match r with
 |.ok v h'=>K v h'
 |.len n v h'=>n<=maxLen->K v h'
 |.call f args=>Spec P f args h K
 |.round id args=>ez P id args h K
 |.any S=>∀v h',S v h'->K v h'
 |.fail=>False
def bn(b:Option Bool)(act:(AV->AH->Prop)->Prop)(h:AH)(K:AV->AH->Prop):Prop :=
 match b with
 |some true=>act K
 |some false=>K wb h
 |none=>False
def ce(env:List AV)(h:AH)(env':List AV)(h':AH):Prop:=∀(B:Nat)(w0 w:World) (g:Gh) (vs:List Value),Rel B w0 g h w->VL g env vs->∃g',g.le g'/\Rel B w0 g' h' w/\VL g' env' vs
theorem ce.refl(env:List AV)(h:AH):ce env h env h:=λ_ _ _ g _ r b=>⟨g,Gh.le.refl g,r,b⟩
theorem ce.trans{env c d:List AV}{h j i:AH}(a:ce env h c j)(b:ce c j d i):ce env h d i:=λB w0 w g vs r q=>by
 obtain⟨m,k1,k,e⟩:=a B w0 w g vs r q;obtain⟨l,k2,p,f⟩:=b B w0 w m vs k e;exact⟨l,k1.trans k2,p,f⟩
def bwp(P:Program)(o:Oper)(env:List AV)(h:AH)(K:AV->AH->Prop):Prop:=∃l,xN P o env h=aa l/\∀p∈l,K p.1 p.2
def zx(P:Program)(ops:Array Oper)(Q:List AV->AH->Prop):List Oper->List AV->AH->Prop
 |[],env,h=>Q env h
 |o::rest,env,h=>∃env2 h2,ce env h env2 h2/\bn (aG ops o env2) (λK=>bm P h2 (zj P o env2 h2) K \/ bwp P o env2 h2 K) h2 λv h'=>zx P ops Q rest (fw env2 o.dst v) h'
theorem qk{P:Program}(c:bn (aG ops o env) (bm P h (zj P o env h)) h λv d=>zx P ops Q rest (fw env o.dst v) d) :
  zx P ops Q (o::rest) env h:=⟨env,h,ce.refl _ _,by
   cases hb:aG ops o env with
   |none=>rw[hb]at c;exact c
   |some b =>
    rw[hb]at c;cases b with
    |true=>exact .inl c
    |false=>exact c⟩
theorem sI{P:Program}(d:aG ops o env=aa true)(b:bwp P o env h λv c=>zx P ops Q rest (fw env o.dst v) c) :
  zx P ops Q (o::rest) env h:=⟨env,h,ce.refl _ _,by rw[d];exact .inr b⟩
theorem vS{P:Program}{b:List AV}{c:AH}(hs:ce env h b c)(d:zx P ops Q (o::rest) b c):zx P ops Q (o::rest) env h:=by
 obtain⟨e,f,k1,k2⟩:=d;exact⟨e,f,hs.trans k1,k2⟩

def ziL:Op->Bool
 |.move _|.assign _|.pick _ _ _|.build _ _|.nilCheck _|.binOp _ _ _ _ _|.unOp _ _ _|.convert _ _ _|.makeFunc _ _ _|.slice _ _ _ _ _|.fieldAddr _ _ _|.field _ _ _|.indexAddr _ _ _|.index _ _ _|.extract _ _
 |.load _ _|.buildSlice _ _ _|.makeInterface _ _|.typeAssert _ _ _ _=>false
 |.call { callee:=.builtin .len,.. }=>false
 |_=>true
def zwQ:Op->Bool
 |.load _ _=>true
 |_=>false
def bN(Ns:List Nat)(i:Nat)(op:Op):Bool:=ziL op&&!Ns.contains i
def aQ(b:Array Nat)(i j:Nat):Bool:=(b.getD j 0).testBit i || (b.getD i 0).testBit j
def pg(ops:Array Oper)(Ns:List Nat):Bool :=
 let b:=Region.before ops
 (ops.toList.zipIdx.all λ(o,i)=>o.after.all (λe=>!Region.binds .any e || decide (e.on<i)) &&
  ops.toList.zipIdx.all λ(o',j)=>i==j || aQ b i j ||
   ((match o.dst with
    |some d=>!(o'.looksAt ops).contains d&&o'.dst != aa d
    |none=>true)&&!(bN Ns i o.op&&bN Ns j o'.op)))
def zse(ops:Array Oper)(Ns:List Nat)(i:Nat):Bool :=
 let b:=Region.before ops
 ops.toList.zipIdx.all λ(o,j)=>i==j || !zwQ o.op || Ns.contains j || aQ b i j
def AR(P:Program)(ops:Array Oper)(o:Oper)(env:List AV)(h:AH)(v:AV)(h':AH):Prop :=
 match aG ops o env with
 |some true=>match zj P o env h with
  |.ok v1 h1=>v=v1/\h'=h1
  |.len _ v1 h1=>v=v1/\h'=h1
  |.call f args=>Spec P f args h λr h1=>r=v/\h1=h'
  |.round id args=>ez P id args h λr h1=>r=v/\h1=h'
  |.any _=>False
  |.fail=>False
 |some false=>v=wb/\h'=h
 |none=>False
def f0(b:Nat)(Ns:List Nat)(F:Nat->AH->Prop)(h:AH):Prop:=∀n,Ns.contains n=true->b.testBit n=false->F n h
def ARN(P:Program)(ops:Array Oper)(Ns:List Nat)(F:Nat->AH->Prop)(i:Nat)(o:Oper)(env:List AV)(h:AH)(v:AV)(h':AH):Prop :=
 (Ns.contains i=false/\AR P ops o env h v h') \/
 (Ns.contains i=true/\aG ops o env=aa true/\h'=h /\
  ((∃f args,(∀h2,zj P o env h2=.call f args)/\∀h2,F i h2->Spec P f args h2 λr hh=>r=v/\hh=h2) \/ ∀h2,F i h2->zj P o env h2=.ok v h2)) \/
 (Ns.contains i=false/\zr9 o.op=true/\aG ops o env=aa true/\xN P o env h=aa [(v,h')]) \/
 (Ns.contains i=true/\aG ops o env=aa false/\v=wb/\h'=h)
def zI(P:Program)(ops:Array Oper)(Ns:List Nat)(F:Nat->AH->Prop)(Q:List AV->AH->Prop):Nat->List Oper->List AV->AH->Prop
 |_,[],env,h=>Q env h
 |i,o::rest,env,h=>∃v h',ARN P ops Ns F i o env h v h'/\(zse ops Ns i=true \/ h'.zh=h.zh)/\(h'=h \/ f0 ((Region.before ops).getD i 0) Ns F h')/\zI P ops Ns F Q (i+1) rest (fw env o.dst v) h'

def qR(P:Program)(ops:Array Oper)(Q:List AV->AH->Prop):Nat->Array Bool->List AV->AH->Prop
 |0,listed,env,h=>Region.ready .any ops listed=[]/\Q env h
 |m+1,listed,env,h=>(Region.ready .any ops listed=[]->Q env h)/\∀i∈Region.ready .any ops listed,∀o,ops[i]?=aa o ->
   bn (aG ops o env) (λK=>bm P h (zj P o env h) K \/ bwp P o env h K) h λv h'=>qR P ops Q m (listed.setIfInBounds i true) (fw env o.dst v) h'

def wk(hd:AH)(env:List AV)(h:AH)(env':List AV)(h':AH):Prop:=∀(B:Nat)(w0 w w1:World) (g1 g:Gh) (vs:List Value),Rel B w0 g1 hd w1 ->
 g1.le g->Rel B w0 g h w->VL g env vs->∃g',g1.le g'/\Rel B w0 g' h' w/\VL g' env' vs/\∀c,c∈g.δ->c∈g'.δ

def pk:Code->Bool
 |.seq a b=>pk a&&pk b
 |.cond _ a b=>pk a&&pk b
 |.block _ a=>pk a
 |.loop a=>pk a
 |.rangeFunc _ _ _ _=>false
 |_=>true

def vi(P:Program):Code->(Exit->List AV->AH->Prop)->List AV->AH->Prop
 |.skip,Q,env,h=>Q .normal env h
 |.label _,Q,env,h=>Q .normal env h
 |.region _ ops draw,Q,env,h=>match draw with
  |true=>(∃Ns F,(P.follows .mixedOrders=true/\pg ops Ns=true)/\(∀n,F n h)/\zI P ops Ns F (Q .normal) 0 ops.toList env h) \/
    (P.follows .mixedOrders=true/\qR P ops (Q .normal) ops.size (Array.replicate ops.size false) env h)
  |false=>zx P ops (Q .normal) ops.toList env h
 |.seq a b,Q,env,h=>vi P a (λx env' h'=>match x with
  |.normal=>∃env2 h2,wk h env' h' env2 h2/\vi P b Q env2 h2
  |x=>Q x env' h') env h
 |.cond c t e,Q,env,h=>yo c=true/\match ev env c with
  |.bool b=>if b then vi P t Q env h else vi P e Q env h
  |_=>False
 |.block id body,Q,env,h=>vi P body (λx env h=>match x with
  |.exit id'=>if id'=id then Q .normal env h else Q (.exit id') env h
  |x=>Q x env h) env h
 |.loop body,Q,env,h=>∃I:Nat->List AV->AH->Prop,(∃n env2 h2,wk h env h env2 h2/\I n env2 h2)/\∀n env1 h1,I n env1 h1->vi P body (λx env' h'=>match x with
  |.normal=>∃m env2 h2,m<n/\(wk h1 env' h' env2 h2 \/ wk h env' h' env2 h2)/\I m env2 h2
  |x=>Q x env' h') env1 h1
 |.exit id,Q,env,h=>Q (.exit id) env h
 |.ret,Q,env,h=>Q .ret env h
 |.rangeFunc f ps assign body,Q,env,h=>yo f=true/\pk assign=true/\pk body=true/\∃env2 h2,wk h env h env2 h2/\match ev env2 f with
  |.fn (.func f) first caps=>Spec P f (first++[.ca h2.zh.length]++caps) (h2.new (.loop .ready ac env2 ps assign body)) λ_ h'=>∃st pe env' ps' a' b',h'.g7 h2.zh.length=aa (.loop st pe env' ps' a' b')/\st≠.busy/\match pe with
   |none=>Q .normal env2 (h'.put h2.zh.length .dead)
   |some .ret=>Q .ret env2 (h'.put h2.zh.length .dead)
   |some (.exit i)=>Q (.exit i) env2 (h'.put h2.zh.length .dead)
   |_=>False
  |_=>False
 |_,_,_,_=>False

def WF(ro:Option Nat):Fence:={ Fence.wide with round:=ro }

section
variable{P:Program}{B:Nat}{w0:World}{g0:Gh}{D:List Deferred}{ro:Option Nat}{n:Nat}[GOk P B w0]

def St(B:Nat)(w0:World)(g0:Gh)(D:List Deferred)(env:List AV)(h:AH)(a:Act)(w:World):Prop:=∃g,g0.le g/\Rel B w0 g h w/\VL g env a.tmps.toList/\a.defers=D

theorem VL.fw{g:Gh}{env:List AV}{a:Act}(b:VL g env a.tmps.toList)(d:Option Tmp){v:AV}{u:Value}(c:V g v u):VL g (fw env d v) (a.put d u).tmps.toList:=by
 cases d with
 |none=>exact b
 |some d=>simp only[Vv.fw,Act.put,ii];exact VL.set b d v u c
theorem qq(a:Act)(d:Option Tmp)(u:Value):(a.put d u).defers=a.defers:=by cases d<;>rfl

theorem un{g:Gh}(k:VL g env a.tmps.toList){b:Bool}(c:aG ops o env=aa b):Region.wanted o (yielded ops a.tmps)=b:=by
 unfold aG at c;split at c
 ·rename_i l;cases c;simp[Region.wanted,l]
 ·rename_i j e l;have p:Region.wanted o (yielded ops a.tmps)=(yielded ops a.tmps j==aa e):=by simp[Region.wanted,l]
  rw[p];split at c
  ·rename_i hd;cases c;simp[yielded,hd]
  ·rename_i d hd;unfold yielded;rw[hd,tb];split at c
   ·rename_i i;cases c;have:a.tmps[d]?=ac:=by
     have m:env.length<=d:=by simp_all
     rw[iN];rw[k.length]at m;simpa using m
    simp[this]
   ·rename_i r i;cases c;obtain⟨u,q,f⟩:=k.get _ _ i;simp only[V]at f;subst f
    simp_all
   ·rename_i i;cases c;obtain⟨u,q,f⟩:=k.get _ _ i;simp only[V]at f
    grind
   ·cases c

theorem zmw(b:zj P o env h≠.fail):∀c,o.op≠.defer c:=by
 intro c d;exact b (by simp only[zj,d])

theorem zeW{f:FuncId}{args:Array Value}{R:Ending->World->Prop}(h:Calls P f args w R):CallsIn (WF ro) n P f args w R:=callsIn_wide (n:=n).2 h

theorem md{Q:Exit->Act->World->Prop}
  (hs:St B w0 g0 D env h a w) (k:bm P h (zj P o env h) K)
  (z:∀v j u w',K v j->(∃g',g0.le g'/\Rel B w0 g' j w'/\VL g' env a.tmps.toList/\V g' v u)->next (a.put o.dst u) w'):o.wpIn (WF ro) n P a w next Q:=by
 obtain⟨g,y,r,t,J⟩:=hs;have b:=zeY (P:=P) r t o;have A:∀c,o.op≠.defer c:=by
  refine zmw (P:=P) (env:=env) (h:=h) λe=>?_;rw[e]at k;exact k
 refine⟨λ_ _=>trivial,?_⟩;rw[Oper.semAt_eq (WF ro).round a.eval o A];have ok:∀v j,tC P B w0 g a o w v j->K v j->o.uponIn (WF ro) n P a next Q ((execOp a.eval o).run P w):=by
  rintro v j ⟨u,w',g',d,i,p,s⟩ q
  rcases d with d|⟨d,rfl⟩
  ·rw[d,Oper.uponIn_value];exact z v j u w' q ⟨g',y.trans i,p,t.mono i,s⟩
  ·rw[d,Oper.uponIn_skip];exact z v j undef w' q ⟨g',y.trans i,p,t.mono i,s⟩
 cases hst:zj P o env h with
 |ok v j=>rw[hst]at b k;exact ok v j b k
 |len m v j=>rw[hst]at b k;exact ok v j b.2 (k b.1)
 |call f args =>
  rw[hst]at b k;obtain⟨vs,d,l⟩:=b;rw[d,k.1 vs w,Oper.uponIn_enter];refine⟨λh=>by simp[WF,Fence.wide]at h,zeW ((k.2 B w0 g w vs r l).mono ?_)⟩
  rintro e w' ⟨v,x,j,g',rfl,q,i,p,s⟩
  exact z x j v w' q ⟨g',y.trans i,p,t.mono i,s⟩
 |round id args =>
  rw[hst]at b k;obtain⟨c,vs,I,d,l⟩:=b;obtain⟨fn,tmps,assign,body,E,G⟩:=k B w0 g w vs c r l I;rw[d,E,Oper.uponIn_round];refine⟨λh=>by simp[WF,Fence.wide]at h,RoundIn.mono (F:=WF ro) (G _) ?_⟩
  rintro e w' ⟨v,x,j,g',rfl,q,i,p,s⟩
  exact z x j v w' q ⟨g',y.trans i,p,t.mono i,s⟩
 |any S =>
  rw[hst]at b k;obtain⟨v,j,H,C⟩:=b;exact ok v j C (k v j H)
 |fail=>rw[hst]at k;exact k.elim

omit [GOk P B w0]in
theorem zaB{Q:Exit->Act->World->Prop}
  (hs:St B w0 g0 D env h a w) (y:bwp P o env h K)
  (t:∀v q u w',K v q->(∃g',g0.le g'/\Rel B w0 g' q w'/\VL g' env a.tmps.toList/\V g' v u)->next (a.put o.dst u) w'):o.wpIn (WF ro) n P a w next Q:=by
 obtain⟨g,k,r,i,A⟩:=hs;obtain⟨l,s,m⟩:=y;have f:∀c,o.op≠.defer c:=λc z=>by simp[xN,z]at s
 obtain⟨p,e,u,w',g',b,d,j,x⟩:=zxg r i s;refine⟨λ_ _=>trivial,?_⟩;rw[Oper.semAt_eq (WF ro).round a.eval o f];rcases b with b|⟨b,rfl⟩
 ·rw[b,Oper.uponIn_value];exact t _ _ u w' (m p e) ⟨g',k.trans d,j,i.mono d,x⟩
 ·rw[b,Oper.uponIn_skip];exact t _ _ undef w' (m p e) ⟨g',k.trans d,j,i.mono d,x⟩

theorem zcW{ops:Array Oper}{Q:Exit->Act->World->Prop}{QA:List AV->AH->Prop}(l:∀env h a w,QA env h->St B w0 g0 D env h a w->Q .normal a w) :
  ∀(rest:List Oper)(k:Nat) (env:List AV) (h:AH) (a:Act) (w:World),ops.toList.drop k=rest->zx P ops QA rest env h->St B w0 g0 D env h a w->wpOpsIn (WF ro) n P ops Q (List.range' k rest.length) a w
 |[],k,env,h,a,w,_,c,hs=>l env h a w c hs
 |o::rest,k,env,h,a,w,hd,c,hs=>by
  have G:ops[k]?=aa o:=by
   rw[<- lr];have:=congrArg (·[0]?) hd
   grind
  have f:ops.toList.drop (k+1)=rest:=by
   rw[<- kf,hd];rfl
  simp only[nr,List.range'_succ,wpOpsIn,G];obtain⟨env,h,q,c⟩:=c;obtain⟨y,s,C,j,m⟩:=hs;obtain⟨g,p,r,t⟩:=q _ _ _ _ _ C j;have x:=s.trans p;have hs:St B w0 g0 D env h a w:=⟨g,x,r,t,m⟩
  cases hb:aG ops o env with
  |none=>rw[hb]at c;exact c.elim
  |some b =>
   have d:=un t hb;rw[hb]at c;rw[d];cases b with
   |true =>
    simp only[bn]at c;simp only[oS];have e:∀v i u w',zx P ops QA rest (fw env o.dst v) i->(∃g',g0.le g'/\Rel B w0 g' i w'/\VL g' env a.tmps.toList/\V g' v u)->wpOpsIn (WF ro) n P ops Q (List.range' (k+1) rest.length) (a.put o.dst u) w':=λv i u w' E ⟨g',F,z,H,A⟩ =>
     zcW l rest (k+1) _ i _ w' f E ⟨g',F,z,H.fw o.dst A,by rw[qq];exact m⟩
    rcases c with c|c
    ·exact md hs c e
    ·exact zaB hs c e
   |false =>
    simp only[bn]at c;simp only[s5,mb];exact⟨λ_ _=>trivial,zcW l rest (k+1) _ h _ w f c ⟨g,x,r,t.fw o.dst V.f5,by rw[qq];exact m⟩⟩

theorem zdL{ops:Array Oper}{Q:Exit->Act->World->Prop}{QA:List AV->AH->Prop}(k:∀env h a w,QA env h->St B w0 g0 D env h a w->Q .normal a w) :
  ∀(m:Nat)(c:Array Bool) (env:List AV) (h:AH) (a:Act) (w:World),qR P ops QA m c env h->St B w0 g0 D env h a w->wpAnyIn (WF ro) n P .any ops Q m c a w
 |0,c,env,h,a,w,d,hs=>⟨d.1,k env h a w d.2 hs⟩
 |m+1,c,env,h,a,w,d,hs=>by
  refine⟨λe=>k env h a w (d.1 e) hs,λi hi=>?_⟩;unfold wpOpIn;cases ho:ops[i]? with
  |none =>
   exfalso;unfold Region.ready at hi
   simp_all
  |some o =>
   have d:=d.2 i hi o ho;simp only;obtain⟨g,s,r,q,p⟩:=hs;have hs:St B w0 g0 D env h a w:=⟨g,s,r,q,p⟩
   cases hb:aG ops o env with
   |none=>rw[hb]at d;exact d.elim
   |some b =>
    have f:=un q hb;rw[hb]at d;rw[f];cases b with
    |true =>
     simp only[bn]at d;simp only[oS];have j:∀v l u w',qR P ops QA m (c.setIfInBounds i true) (fw env o.dst v) l->(∃g',g0.le g'/\Rel B w0 g' l w'/\VL g' env a.tmps.toList/\V g' v u)->wpAnyIn (WF ro) n P .any ops Q m (c.setIfInBounds i true) (a.put o.dst u) w':=λv l u w' y ⟨g',z,t,A,x⟩ =>
      zdL k m _ _ l _ w' y ⟨g',z,t,A.fw o.dst x,by rw[qq];exact p⟩
     rcases d with d|d
     ·exact md hs d j
     ·exact zaB hs d j
    |false =>
     simp only[bn]at d;simp only[s5,mb];exact⟨λ_ _=>trivial,zdL k m _ _ h _ w d ⟨g,s,r,q.fw o.dst V.f5,by rw[qq];exact p⟩⟩
end
end Go.Vv
namespace Go.Vv
open Go Go.RowKit Go.Lib
variable{ops:Array Oper}{o:Oper}{env env':List AV}{P:Program}{h:AH}

def bB(acc:Array Nat)(o:Oper):Array Nat:=acc.push (o.after.foldl (λs e=>if Region.binds .any e then s ||| 2 ^ e.on ||| acc.getD e.on 0 else s) 0)
theorem zhL(ops:Array Oper):Region.before ops=ops.toList.foldl bB #[]:=by
 unfold Region.before;rw[<- iC];rfl
theorem zgo:∀(l:List Oper)(acc:Array Nat),(l.foldl bB acc).size=acc.size+l.length
 |[],acc=>by simp
 |o::r,acc=>by simp only[kS,zgo r,bB,Array.size_push,nr];omega
theorem zgp:∀(l:List Oper)(acc:Array Nat) (j:Nat),j<acc.size->(l.foldl bB acc).getD j 0=acc.getD j 0
 |[],acc,j,_=>rfl
 |o::r,acc,j,h=>by
  simp only[kS];rw[zgp r _ j (by simp[bB];omega)];simp[bB,lP,i6,Nat.ne_of_lt h]
theorem cw(acc:Array Nat)(w:Nat):∀(es:List Edge)(s:Nat),(es.foldl (λs e=>if Region.binds .any e then s ||| 2 ^ e.on ||| acc.getD e.on 0 else s) s).testBit w=true ->
  s.testBit w=true \/ ∃e∈es,Region.binds .any e=true/\(e.on=w \/ (acc.getD e.on 0).testBit w=true)
 |[],s,h=>.inl h
 |e::r,s,h=>by
  simp only[kS]at h;rcases cw acc w r _ h with h|⟨b,a,c,hh⟩
  ·grind
  ·grind
theorem zdI{i w:Nat}(hi:ops[i]?=aa o)(h:((Region.before ops).getD i 0).testBit w=true) :
  ∃e∈o.after,Region.binds .any e=true/\(e.on=w \/ (e.on<i/\((Region.before ops).getD e.on 0).testBit w=true)):=by
 have k:ops.toList[i]?=aa o:=by simp_all
 obtain⟨c,_⟩:=tu.1 k;have a:ops.toList=ops.toList.take i++o::ops.toList.drop (i+1):=by
  have:=j8 c
  simp_all
 generalize hA:(ops.toList.take i).foldl bB #[]=acc;have b:acc.size=i:=by rw[<- hA,zgo];simp at c ⊢;omega
 have j:Region.before ops=(ops.toList.drop (i+1)).foldl bB (bB acc o):=by
  rw[zhL]
  conv=>lhs;rw[a]
  grind
 have f:(Region.before ops).getD i 0=o.after.foldl (λs e=>if Region.binds .any e then s ||| 2 ^ e.on ||| acc.getD e.on 0 else s) 0:=by
  rw[j,zgp _ _ _ (by simp[bB,b])];subst b;simp[bB,lP]
 rw[f,<- iC]at h;rcases cw acc w o.after.toList 0 h with h|⟨e,l,g,hh⟩
 ·grind
 ·refine⟨e,by grind,g,hh.imp id λhh=>?_⟩;have d:e.on<i:=by
   grind
  refine⟨d,?_⟩;rw[j,zgp _ _ _ (by simp[bB,b];omega)];have:(bB acc o).getD e.on 0=acc.getD e.on 0:=by simp[bB,lP,i6,b,Nat.ne_of_lt d]
  grind

theorem zf5{x:Operand}(h:∀t,x=.tmp t->env[t]?=env'[t]?):ev env x=ev env' x:=by
 cases x with
 |tmp t=>simp only[ev,lu,h t rfl]
 |_=>rfl
theorem zfK{t:Tmp}(h:Operand.tmp t∈o.op.operands):t∈o.looksAt ops:=by
 unfold Oper.looksAt;refine ma.2 (.inl (List.mem_filterMap.2 ⟨.tmp t,by simpa using h,rfl⟩))
theorem zix{j:Nat}{b:Bool}{d:Tmp}(a:o.guard=aa (j,b))(hd:(ops[j]?).bind (·.dst)=aa d):d∈o.looksAt ops:=by
 unfold Oper.looksAt
 simp_all
theorem za9(h:∀t∈o.looksAt ops,env[t]?=env'[t]?):aG ops o env=aG ops o env':=by
 unfold aG;split
 ·rfl
 ·rename_i j a b;split
  ·rfl
  ·rename_i d hd;rw[h d (zix b hd)]

theorem mJ{d:TypeDesc}{parts:Array (Nat×Operand)}(h:∀p∈parts.toList,ev env p.2=ev env' p.2):xS P d env parts=xS P d env' parts:=by
 unfold xS;exact jV λp a=>by rw[h p a]

theorem r8(e:∀x∈o.op.operands,ev env x=ev env' x):zj P o env h=zj P o env' h:=by
 unfold zj;cases ho:o.op<;>rw[ho]at e<;>simp only[Op.operands]at e ⊢
 case move x=>rw[e x (by simp)]
 case assign x=>rw[e x (by simp)]
 case pick c a b=>rw[e c (by simp),e a (by simp),e b (by simp)]
 case box t x=>rw[e x (by simp)]
 case build t parts =>
  have g:∀d,xS P d env parts=xS P d env' parts:=λd=>mJ λp g=>e p.2 (by grind)
  simp_all
 case buildSlice t n parts =>
  have g:∀d,xS P d env parts=xS P d env' parts:=λd=>mJ λp g=>e p.2 (by grind)
  simp_all
 case load t x=>rw[e x (by simp)]
 case store t x y=>rw[e x (by simp),e y (by simp)]
 case nilCheck x=>rw[e x (by simp)]
 case binOp op t x y yt=>rw[e x (by simp),e y (by simp)]
 case unOp op t x=>rw[e x (by simp)]
 case convert s t x=>rw[e x (by simp)]
 case makeFunc f a b =>
  have k:a.toList.map (ev env)=a.toList.map (ev env'):=jV λx q=>e x (by simp_all);have j:b.toList.map (ev env)=b.toList.map (ev env'):=jV λx q=>e x (by simp_all)
  grind
 case slice t x lo hi mx =>
  have k:lo.map (ev env)=lo.map (ev env'):=by cases lo with|none=>rfl|some y=>simp[e y (by simp)]
  have j:hi.map (ev env)=hi.map (ev env'):=by cases hi with|none=>rfl|some y=>simp[e y (by simp)]
  have u:mx.map (ev env)=mx.map (ev env'):=by cases mx with|none=>rfl|some y=>simp[e y (by simp)]
  simp_all
 case fieldAddr t x f=>rw[e x (by simp)]
 case field t x f=>rw[e x (by simp)]
 case indexAddr t x i=>rw[e x (by simp),e i (by simp)]
 case index t x i=>rw[e x (by simp),e i (by simp)]
 case extract x i=>rw[e x (by simp)]
 case range t x=>rw[e x (by simp)]
 case next x s=>rw[e x (by simp)]
 case lookup t x i ok=>rw[e x (by simp),e i (by simp)]
 case mapEntry t x i=>rw[e x (by simp),e i (by simp)]
 case entryStore t x i y=>rw[e x (by simp),e i (by simp),e y (by simp)]
 case mapUpdate t x i y=>rw[e x (by simp),e i (by simp),e y (by simp)]
 case makeMap t r=>cases r<;>rfl
 case call c =>
  have k:c.args.toList.map (ev env)=c.args.toList.map (ev env'):=jV λx q=>e x (by simp[Call.operands];exact .inr (by simp_all));have j:(c.args.toList.zip c.argTypes.toList).map (λp=>w5 P p.2 (ev env p.1))=(c.args.toList.zip c.argTypes.toList).map (λp=>w5 P p.2 (ev env' p.1)) :=
   jV λp g=>by rw[e p.1 (by simp[Call.operands];exact .inr (by simpa using (List.of_mem_zip g).1))]
  rw[k,j];split
  ·split
   ·rfl
   ·rename_i f l;rw[e f (by simp[Call.operands,l])]
   ·rename_i x m l;rw[e x (by simp[Call.operands,l])]
  ·rfl

theorem zdG(a:∀x∈o.op.operands,ev env x=ev env' x):xN P o env h=xN P o env' h:=by
 unfold xN;cases ho:o.op<;>rw[ho]at a<;>simp only[Op.operands]at a ⊢
 case range t x=>rw[a x (by simp)]
 case next x s=>cases s<;>simp only;rw[a x (by simp)]
 case entry x=>rw[a x (by simp)]
 case buildSlice t n parts =>
  have b:∀d,xS P d env parts=xS P d env' parts:=λd=>mJ λp b=>a p.2 (by grind)
  simp_all
 case convert s t x=>rw[a x (by simp)]
 case makeInterface t x=>rw[a x (by simp)]
 case typeAssert x u t ok=>rw[a x (by simp)]
 case slice t x lo hi mx =>
  split<;>first|rfl|skip
  all_goals (rename_i h0;try (cases h0))
  all_goals first
   |rfl
   |(rename_i y;rw[a x (by simp),a y (by simp)])
 case insert t m k x =>
  have:zj P { o with op:=.mapUpdate t m k x } env h=zj P { o with op:=.mapUpdate t m k x } env' h:=r8 λy e=>a y (by simpa[Op.operands]using e);rw[this]
 case call c =>
  have f:∀x∈c.args.toList,ev env x=ev env' x:=λx g=>a x (by simp[Call.operands];exact .inr (by simp_all));split
  ·simp_all
  ·simp_all
  ·simp_all
  ·simp_all
  ·simp_all
  ·rfl
theorem zdF{d:AH}{v:AV}(b:ziL o.op=false)(hd:zr9 o.op=true)(a:xN P o env h=aa [(v,d)]):d=h/\∀e,xN P o env e=aa [(v,e)]:=by
 unfold xN at a ⊢;cases ho:o.op<;>rw[ho]at b a hd<;>simp only[ziL,zr9,reduceCtorEq]at b a hd ⊢
 case convert s t x =>
  grind
 case makeInterface t x =>
  grind
 case typeAssert x u t ok =>
  split at a
  ·rename_i f;split at a
   ·cases a
   ·split at a
    ·simp_all
    ·grind
   ·cases a
  ·cases a
 case call c =>
  grind
theorem zls{a:AH}(b:a.zh=h.zh)(ag:Bool)(n:Nat)(p:AV):sJ a ag n p=sJ h ag n p:=by
 unfold sJ AH.g7;rw[b]

theorem dO(d:ziL o.op=false) :
  (∃x:Option AV,∀a:AH,(zwQ o.op=true->a.zh=h.zh)->zj P o env a=oo a x) \/ (∃n v,∀a:AH,zj P o env a=.len n v a) \/ (∀a:AH,(∃S,zj P o env a=.any S) \/ zj P o env a=.fail):=by
 cases ho:o.op<;>rw[ho]at d<;>simp only[ziL,reduceCtorEq]at d<;>simp only[zj,ho]
 case call c =>
  obtain⟨callee,a5,ts⟩:=c;cases callee with
  |value f=>simp at d
  |invoke x m=>simp at d
  |builtin b =>
   cases b<;>simp only[reduceCtorEq]at d;simp only[uu];split
   ·split
    ·split
     ·split
      ·simp_all
      ·simp_all
     ·split
      ·simp_all
      ·simp_all
     ·grind
     ·simp_all
    ·simp_all
    ·simp_all
    ·simp_all
    ·simp_all
   ·simp_all
 case binOp op t x y u =>
  split
  ·cases hq:mU P op t h (ev env x) (ev env y)with
   |none =>
    have g:∀a,mU P op t a (ev env x) (ev env y)=ac:=by
     intro a;unfold mU at hq ⊢;split at hq
     ·grind
     ·grind
     ·rfl
    exact .inl ⟨_,λa _=>by rw[g a]⟩
   |some S =>
    refine .inr (.inr λa=>?_);have:∃S',mU P op t a (ev env x) (ev env y)=aa S':=by
     unfold mU at hq ⊢
     grind
    grind
  ·simp_all
 case load t x =>
  split
  ·exact .inl ⟨_,λa e=>by rw[zls (e rfl)]⟩
  ·simp_all
 all_goals
  (repeat' split)<;>first
   |exact .inl ⟨ac,λ_ _=>rfl⟩
   |exact .inl ⟨aa _,λ_ _=>rfl⟩
   |exact .inl ⟨_,λ_ _=>rfl⟩
end Go.Vv
