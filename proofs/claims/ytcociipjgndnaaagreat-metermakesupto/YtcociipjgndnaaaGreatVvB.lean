/- One operation on abstract values; the weakest precondition of a piece of code, and of a call, over them. -/
import Derived.Test.YtcociipjgndnaaaGreatVvA
namespace Go.Vv
open Go

def cv1:Value->AV
 | .bool b=>.bool b
 | .int k n=>.int k n
 | .string s=>.str s.data.toList
 | .pointer none=>.nilp
 | .slice none 0 0=>.nilsl
 | .map none=>.nilm
 | .nilFunc=>.nilf
 | .nilIface=>.nili
 | _=>aundef
def okc1:Value->Bool
 | .bool _ | .int _ _ | .pointer none | .slice none 0 0 | .map none | .nilFunc | .nilIface=>true
 | .string s=>decide (s.size<=maxLen)
 | _=>false
def cv:Value->AV
 | .agg cs=>.agg (cs.toList.map cv1)
 | .tuple _=>aundef
 | v=>cv1 v
def okc:Value->Bool
 | .agg cs=>cs.toList.all okc1
 | .tuple vs=>vs.isEmpty
 | v=>okc1 v

def ev (env:List AV):Operand->AV
 | .tmp t=>env.getD t aundef
 | .const v=>cv v
 | .global g=>.glob g
 | .func f=>.fn (.func f) [] []
def yy:Operand->Bool
 | .const v=>okc v
 | _=>true

def yh:TypeDesc->Bool
 | .struct _ | .array _ _=>true
 | _=>false
def tyfix (P:Program) (t:TypeId):AV->AV
 | .nilsl=>match P.underlying t with
  | some (.slice e)=>.osl none (P.cellsOf e) []
  | _=>.nilsl
 | v=>v
def setd (env:List AV):Option Tmp->AV->List AV
 | some d,v=>env.set d v
 | none,_=>env

inductive Res where
 | ok (v:AV) (h:AH)
 | len (n:Nat) (v:AV) (h:AH)
 | call (f:FuncId) (args:List AV)
 | round (id:Nat) (args:List AV)
 | any (S:AV->AH->Prop)
 | fail

def oo (h:AH):Option AV->Res
 | some v=>.ok v h
 | none=>.fail
def oh (h:Option AH):Res :=
 match h with
 | some h=>.ok aundef h
 | none=>.fail
def ovh:Option (AV×AH)->Res
 | some (v,h)=>.ok v h
 | none=>.fail

def AH.blk (h:AH) (id:Nat):Option Blk:=h.blks[id]?
def AH.new (h:AH) (b:Blk):AH:={ h with blks:=h.blks++[b] }
def AH.put (h:AH) (id:Nat) (b:Blk):AH:={ h with blks:=h.blks.set id b }

def aLoad (h:AH) (ag:Bool) (n:Nat):AV->Option AV
 | .ptr id off=>match h.blk id with
  | some (.cells cs)=>if ag then (if off+n<=cs.length then some (.agg ((cs.drop off).take n)) else none) else cs[off]?
  | _=>none
 | .fptr cs=>if ag then (if n<=cs.length then some (.agg (cs.take n)) else none) else cs[0]?
 | .rptr id t k m p=>match h.blk id with
  | some (.row t' k' es)=>if t'=t/\k'=k/\es.length=m then (if ag then (if p+n<=es.flatten.length then some (.agg ((es.flatten.drop p).take n)) else none) else es.flatten[p]?) else none
  | _=>none
 | _=>none
def yX (cs:List AV) (off:Nat) (vs:List AV):List AV:=cs.take off++vs++cs.drop (off+vs.length)
def aClean:AV->Option AV
 | .osl _ k es=>some (.sl k es)
 | .nilsl=>none
 | v=>if v.pure then some v else none
def x5:List AV->Option (List AV)
 | []=>some []
 | a::r=>match aClean a,x5 r with
  | some a,some r=>some (a::r)
  | _,_=>none
def rows (k:Nat):Nat->List AV->List (List AV)
 | 0,_=>[]
 | n+1,cs=>cs.take k::rows k n (cs.drop k)
def aStore (h:AH) (n:Nat) (p v:AV):Option AH :=
 match p,v.cells? with
 | .ptr id off,some vs=>match h.blk id with
  | some (.cells cs)=>if vs.length=n/\off+n<=cs.length then some (h.put id (.cells (yX cs off vs))) else none
  | _=>none
 | .rptr id t k m p,some vs=>match h.blk id with
  | some (.row t' k' es)=>if t'=t/\k'=k/\es.length=m/\vs.length=n/\p+n<=es.flatten.length then (match x5 vs with
   | some vs=>some (h.put id (.row t k (rows k m (yX es.flatten p vs))))
   | none=>none) else none
  | _=>none
 | .gptr m,some vs=>if vs.length=n/\n<=m then some h else none
 | _,_=>none
def qz (off:Nat):AV->Option AV
 | .ptr id o=>some (.ptr id (o+off))
 | .fptr cs=>some (.fptr (cs.drop off))
 | .rptr id t k n p=>some (.rptr id t k n (p+off))
 | .gptr m=>if off<=m then some (.gptr (m - off)) else none
 | _=>none
def aPart (ag:Bool) (off n:Nat):AV->Option AV
 | .agg cs=>if ag then some (.agg ((cs.drop off).take n)) else cs[off]?
 | _=>none
def qd (place:Nat->Option (Nat×Nat)):List AV->List (Nat×AV)->Option (List AV)
 | cs,[]=>some cs
 | cs,(i,v)::r =>
  match place i,v.cells? with
  | some (off,size),some vs=>if vs.length=size/\off+size<=cs.length then qd place (yX cs off vs) r else none
  | _,_=>none
def aLen:AV->Option Nat
 | .sl _ es | .osl _ _ es | .bsl _ es | .nsl _ es=>some es.length
 | .msl _ _ _ n | .rsl _ _ _ n | .gsl _ n=>some n
 | .rsuf _ _ _ n p=>some (n - p)
 | .nilsl=>some 0
 | _=>none
def qy (k:Nat) (x i:AV):Option AV :=
 match x,i with
 | .sl k' es,.int _ n | .osl _ k' es,.int _ n | .bsl k' es,.int _ n | .nsl k' es,.int _ n=>if k'=k/\0<=n then (es[n.toNat]?).map .fptr else none
 | .gsl k' m,.int _ n=>if k'=k/\0<=n/\n < m then some (.gptr k) else none
 | .msl k' id off len,.int _ n=>if k'=k/\0<=n/\n < len then some (.ptr id (off+n.toNat * k)) else none
 | .rsl id t k' m,.int _ n=>if k'=k/\0<=n/\n < m then some (.rptr id t k m (n.toNat * k)) else none
 | .rsuf id t k' m p,.int _ n=>if k'=k/\0<=n/\n < (m - p:Nat) then some (.rptr id t k m ((p+n.toNat) * k)) else none
 | _,_=>none
def aIndexArr (len k:Nat) (x i:AV):Option AV :=
 match x,i with
 | .ptr id off,.int _ n=>if 0<=n/\n < len then some (.ptr id (off+n.toNat * k)) else none
 | .fptr cs,.int _ n=>if 0<=n/\n < len then some (.fptr (cs.drop (n.toNat * k))) else none
 | _,_=>none
def aIndexStr (x i:AV):Option AV :=
 match x,i with
 | .str s,.int _ n=>if 0<=n then (s[n.toNat]?).map λb=>.int .u8 b.toNat else none
 | _,_=>none
def aIndexAgg (ag:Bool) (len k:Nat) (x i:AV):Option AV :=
 match i with
 | .int _ n=>if 0<=n/\n < len then aPart ag (n.toNat * k) k x else none
 | _=>none
def aBound (d:Nat):Option AV->Option Nat
 | none=>some d
 | some (.int _ n)=>if 0<=n then some n.toNat else none
 | _=>none
def aSliceStr (s:List UInt8) (lo hi:Option AV):Option AV :=
 match aBound 0 lo,aBound s.length hi with
 | some l,some h=>if l<=h/\h<=s.length then some (.str ((s.take h).drop l)) else none
 | _,_=>none
def aSliceSl (full:Bool) (k:Nat) (es:List (List AV)) (lo hi mx:Option AV):Option AV :=
 match aBound 0 lo,aBound es.length hi with
 | some l,some h =>
  if l<=h/\h<=es.length then
   match mx with
   | none=>some (if full&&hi.isNone then .osl none k (es.drop l) else .sl k ((es.take h).drop l))
   | some (.int _ m)=>if m=h/\hi.isSome then some (.osl none k ((es.take h).drop l)) else none
   | _=>none
  else none
 | _,_=>none
def aSlice (x:AV) (lo hi mx:Option AV):Option AV :=
 match x with
 | .str s=>if mx.isNone then aSliceStr s lo hi else none
 | .sl k es=>aSliceSl false k es lo hi mx
 | .osl o k es=>aSliceSl o.isNone k es lo hi mx
 | _=>none

def xk (op:BinOp) (k:IntKind) (a b:Int):Option AV :=
 match op with
 | .add=>some (.int k (k.wrap (a+b)))
 | .sub=>some (.int k (k.wrap (a - b)))
 | .mul=>some (.int k (k.wrap (a * b)))
 | .quo=>if b=0 then none else some (.int k (k.wrap (a.tdiv b)))
 | .rem=>if b=0 then none else some (.int k (a.tmod b))
 | .and=>some (.int k (k.wrap ((BitVec.ofInt k.bits a &&& BitVec.ofInt k.bits b).toNat)))
 | .or=>some (.int k (k.wrap ((BitVec.ofInt k.bits a ||| BitVec.ofInt k.bits b).toNat)))
 | .xor=>some (.int k (k.wrap ((BitVec.ofInt k.bits a ^^^ BitVec.ofInt k.bits b).toNat)))
 | .andNot=>some (.int k (k.wrap ((BitVec.ofInt k.bits a &&& ~~~(BitVec.ofInt k.bits b)).toNat)))
 | .eql=>some (.bool (a==b))
 | .neq=>some (.bool (a != b))
 | .lss=>some (.bool (decide (a < b)))
 | .leq=>some (.bool (decide (a<=b)))
 | .gtr=>some (.bool (decide (a > b)))
 | .geq=>some (.bool (decide (a >= b)))
 | .shl=>if b < 0 then none else some (.int k (k.wrap (a * 2 ^ min b.toNat k.bits)))
 | .shr=>if b < 0 then none else some (.int k (a.fdiv (2 ^ min b.toNat k.bits)))
def aStr (op:BinOp) (x y:List UInt8):Option AV :=
 match op with
 | .add=>if x.length+y.length<=maxLen then some (.str (x++y)) else none
 | .eql=>some (.bool (x==y))
 | .neq=>some (.bool !(x==y))
 | .lss=>some (.bool (Op.bytesLess x y))
 | .leq=>some (.bool (Op.bytesLess x y || x==y))
 | .gtr=>some (.bool !(Op.bytesLess x y || x==y))
 | .geq=>some (.bool !(Op.bytesLess x y))
 | _=>none
inductive Kd where
 | b | i | s
 deriving DecidableEq
def aEq1:Kd->AV->AV->Option Bool
 | .b,.bool a,.bool b=>some (a==b)
 | .i,.int k a,.int k' b=>if k=k' then some (a==b) else none
 | .s,.str a,.str b=>some (a==b)
 | _,_,_=>none
def aEqL:List Kd->List AV->List AV->Option Bool
 | [],[],[]=>some true
 | k::ks,a::r,b::s=>match aEq1 k a b,aEqL ks r s with
  | some x,some y=>some (x&&y)
  | _,_=>none
 | _,_,_=>none
def aNil:TypeDesc->AV->AV->Option Bool
 | .pointer _,.nilp,.nilp | .func _ _ _,.nilf,.nilf | .map _ _,.nilm,.nilm=>some true
 | .pointer _,.nilp,.ptr _ _ | .pointer _,.nilp,.fptr _ | .pointer _,.ptr _ _,.nilp | .pointer _,.fptr _,.nilp=>some false
 | .func _ _ _,.nilf,.fn _ _ _ | .func _ _ _,.fn _ _ _,.nilf=>some false
 | .map _ _,.nilm,.map _ | .map _ _,.map _,.nilm=>some false
 | .slice _,.msl _ _ _ _,.nilsl=>some false
 | _,_,_=>none
def plainFsOf (P:Program) (f:TypeId->Option (List Kd)):List Field->Nat->Option (List Kd)
 | [],_=>some []
 | x :: fs, acc => if x.name ≠ "_" ∧ x.offset = acc then (match f x.type, P.info? x.type with
   | some ks,some i=>if i.size=ks.length then (match plainFsOf P f fs (acc+i.size) with
    | some r=>some (ks++r)
    | none=>none) else none
   | _,_=>none) else none
def wc (P:Program):Nat->TypeId->Option (List Kd)
 | 0,_=>none
 | d+1,t=>match P.underlying t with
  | some .bool=>some [.b]
  | some (.int _)=>some [.i]
  | some .string=>some [.s]
  | some (.struct fs)=>if P.stoodInHeld t then none else plainFsOf P (wc P d) fs.toList 0
  | _=>none
abbrev plainFs (P:Program) (d:Nat) (fs:List Field) (acc:Nat):Option (List Kd):=plainFsOf P (wc P d) fs acc
def arrKs (P:Program) (t:TypeId):Option (List Kd) :=
 match P.underlying t with
 | some (.array n e)=>match P.underlying e,P.info? e with
  | some (.int _),some i=>if i.size=1 then some (List.replicate n .i) else none
  | _,_=>none
 | _=>none
def aEq (P:Program) (t:TypeId) (x y:AV):Option Bool :=
 match x,y with
 | .agg cs,.agg ds=>if P.eqGuardType P.depth t=false/\(P.underlying t).any yh then (match (wc P 6 t).or (arrKs P t) with
  | some ks=>aEqL ks cs ds
  | none=>none) else none
 | .bool a,.bool b=>match P.underlying t with
  | some .bool=>some (a==b)
  | _=>none
 | x,y=>match P.underlying t with
  | some d=>aNil d x y
  | none=>none
def yH (P:Program) (op:BinOp) (t:TypeId) (x y:AV):Option AV :=
 match x,y with
 | .int k a,.int k' b=>if k=k' \/ op=.shl \/ op=.shr then xk op k a b else none
 | .str a,.str b=>aStr op a b
 | x,y=>match op with
  | .eql=>(aEq P t x y).map .bool
  | .neq=>(aEq P t x y).map λb=>.bool !b
  | _=>none
def aNilq (P:Program) (op:BinOp) (t:TypeId) (h:AH):AV->AV->Option (AV->AH->Prop)
 | .sl _ es,.nilsl | .osl _ _ es,.nilsl=>match P.underlying t,op with
  | some (.slice _),.eql=>some λv h'=>h'=h/\∃b,v=.bool b/\(b=true->es=[])
  | some (.slice _),.neq=>some λv h'=>h'=h/\∃b,v=.bool (!b)/\(b=true->es=[])
  | _,_=>none
 | _,_=>none
theorem aNilq_none {P:Program} {op:BinOp} {t:TypeId} {h:AH} {x y v:AV} (b:yH P op t x y=some v):aNilq P op t h x y=none:=by
 unfold aNilq;split
 ·rename_i k es;split
  ·rename_i a;simp [yH,aEq,a,aNil] at b
  ·rename_i a;simp [yH,aEq,a,aNil] at b
  ·rfl
 ·rename_i q k es;split
  ·rename_i a;simp [yH,aEq,a,aNil] at b
  ·rename_i a;simp [yH,aEq,a,aNil] at b
  ·rfl
 ·rfl
def aUn (op:UnOp):AV->Option AV
 | .int k n=>match op with
  | .neg=>some (.int k (k.wrap (0 - n)))
  | .xor=>some (.int k (k.wrap ((BitVec.ofInt k.bits (if k.signed then -1 else k.max) ^^^ BitVec.ofInt k.bits n).toNat)))
  | _=>none
 | .bool b=>match op with
  | .not=>some (.bool !b)
  | _=>none
 | _=>none
def aConvert (d:TypeDesc):AV->Option AV
 | .int _ n=>match d with
  | .int k=>some (.int k (k.wrap n))
  | _=>none
 | .str s=>match d with
  | .string=>some (.str s)
  | _=>none
 | _=>none

def yK:Nat:=2147483648
def AH.grow (h:AH) (o:Option Nat) (n m:Nat):Option (Nat×AH) :=
 match o with
 | none=>some (h.toks.length,{ h with toks:=h.toks++[n+m] })
 | some id=>if h.toks[id]?=some n then some (id,{ h with toks:=h.toks.set id (n+m) }) else none
def aAppend (h:AH) (k:Nat) (s:AV) (ys:List (List AV)):Option (AV×AH) :=
 match s with
 | .osl o k' es =>
  if ys.length=0 then (match o with
   | none=>some (.osl (some h.toks.length) k' es,{ h with toks:=h.toks++[es.length] })
   | some id=>some (.osl (some id) k' es,h)) else
  if k'=k/\es.length+ys.length<=yK then
   match h.grow o es.length ys.length with
   | some (id,h')=>some (.osl (some id) k (es++ys),h')
   | none=>none
  else none
 | .rsl id t k' n=>if ys.length=0 then some (.rsl id t k' n,h) else (match h.blk id with
  | some (.row t' k'' es)=>if (t'=t/\k'=k/\k''=k)/\es.length=n/\h.toks[t]?=some n/\n+ys.length<=yK then
    some (.rsl id t k (n+ys.length),{ h.put id (.row t k (es++ys)) with toks:=h.toks.set t (n+ys.length) }) else none
  | _=>none)
 | _=>none
def qq (k:Nat):AV->Option (List (List AV))
 | .sl k' es | .osl _ k' es | .bsl k' es | .nsl k' es=>if k'=k then some es else none
 | .str s=>if k=1 then some (s.map λb=>[.int .u8 b.toNat]) else none
 | _=>none
def aMM (mx:Bool):AV->List AV->Option AV
 | v,[]=>some v
 | .int k a,.int k' b::r=>if k=k' then aMM mx (.int k (if mx then (if b > a then b else a) else (if b < a then b else a))) r else none
 | _,_=>none

def vP (P:Program) (h:AH) (b:Builtin) (ts:List TypeId) (args:List AV):Res :=
 match b,ts,args with
 | .len,[t],[x]=>match P.underlying t with
  | some .string=>match x with
   | .str s=>.len s.length (.int .i64 s.length) h
   | _=>.fail
  | some (.slice _)=>match aLen x with
   | some n=>.len n (.int .i64 n) h
   | none=>.fail
  | some (.map _ _)=>match x with
   | .map id=>match h.blk id with
    | some (.mapo es _)=>.any λv h'=>h'=h/\v=.int .i64 es.length
    | _=>.fail
   | _=>.fail
  | _=>.fail
 | .append,[t,u],[s,x]=>match P.underlying t,P.underlying u with
  | some (.slice e),some (.slice _) | some (.slice e),some .string=>match P.info? e with
   | some i=>if i.bytes<=65536/\0 < i.size/\(i.zero.map (·.cells.size))=some i.size then (match qq i.size (tyfix P u x) with
    | some ys=>ovh (aAppend h i.size (tyfix P t s) ys)
    | none=>.fail) else .fail
   | none=>.fail
  | _,_=>.fail
 | .min,_,x::r=>oo h (aMM false x r)
 | .max,_,x::r=>oo h (aMM true x r)
 | _,_,_=>.fail

def fieldOff (P:Program) (t:TypeId) (f:Nat):Option (Nat×TypeId) :=
 match P.underlying t with
 | some (.struct fs)=>(fs[f]?).map λx=>(x.offset,x.type)
 | _=>none
def leafTys (P:Program):Nat->TypeId->List TypeId
 | 0,_=>[]
 | d+1,t=>match P.underlying t with
  | some (.struct fs)=>fs.toList.flatMap λf=>leafTys P d f.type
  | some (.array n e)=>(List.replicate n (leafTys P d e)).flatten
  | _=>[t]
def fixCells (P:Program):List TypeId->List AV->List AV
 | t::ts,a::as=>tyfix P t a::fixCells P ts as
 | _,as=>as
def xD (P:Program) (t:TypeId):Option (List AV) :=
 match P.info? t with
 | some i=>match i.zero with
  | some z=>if okc z then (match (cv z).cells? with
   | some cs=>some (fixCells P (leafTys P 6 t) cs)
   | none=>none) else none
  | none=>none
 | none=>none
def va (P:Program) (fs:Array Field):Option (List (Nat×Nat)):=fs.toList.mapM λf=>(P.info? f.type).map λi=>(f.offset,i.size)
def partTy (d:TypeDesc) (i:Nat):TypeId :=
 match d with
 | .struct fs=>((fs[i]?).map (·.type)).getD 0
 | .array _ e | .slice e=>e
 | _=>0
def xB (P:Program) (d:TypeDesc) (env:List AV) (parts:Array (Nat×Operand)):List (Nat×AV):=parts.toList.map λp=>(p.1,tyfix P (partTy d p.1) (ev env p.2))

def dec (s:List UInt8) (pos:Nat):Nat×Nat:=Utf8.decode ⟨s.toArray⟩ pos
def aNext (h:AH):AV->Res
 | .ptr id 0=>match h.blk id with
  | some (.siter s pos)=>if pos < s.length then .ok (.tup [.bool true,.int .i64 pos,.int .i32 (dec s pos).1]) (h.put id (.siter s (pos+(dec s pos).2))) else .ok (.tup [.bool false]) h
  | _=>.fail
 | _=>.fail

def xe (P:Program) (kt:TypeId) (a b:AV):Option Bool :=
 match P.underlying kt with
 | some .bool=>aEq1 .b a b
 | some (.int _)=>aEq1 .i a b
 | some .string=>aEq1 .s a b
 | some (.struct _)=>match a,b with
  | .agg cs,.agg ds=>(match wc P 6 kt with
   | some ks=>aEqL ks cs ds
   | none=>none)
  | _,_=>none
 | _=>none
def aFind (P:Program) (kt:TypeId) (k:AV):List (AV×AV)->Nat->Option (Option (Nat×AV))
 | [],_=>some none
 | e::r,i=>match xe P kt k e.1 with
  | some true=>some (some (i,e.2))
  | some false=>aFind P kt k r (i+1)
  | none=>none
def aZero (P:Program) (t:TypeId):Option AV :=
 match P.info? t with
 | some i=>match i.zero with
  | some z=>if okc z then (match cv z with
   | .agg cs=>some (.agg (fixCells P (leafTys P 6 t) cs))
   | v=>some (tyfix P t v)) else none
  | none=>none
 | none=>none
def AV.zc1:AV->AV
 | .osl _ k es=>.sl k es
 | v=>v
def AV.zcl:AV->AV
 | .agg cs=>.agg (cs.map AV.zc1)
 | v=>v
def aZeroM (P:Program) (t:TypeId):Option AV:=(aZero P t).map AV.zcl
def withOk (ok:Bool) (v:AV) (b:Bool):AV:=if ok then .tup [v,.bool b] else v
def aLookup (P:Program) (h:AH) (kt et:TypeId) (ok:Bool) (m k:AV):Option AV :=
 if xe P kt k k=some true then (match m with
  | .nilm=>(aZeroM P et).map λz=>withOk ok z false
  | .map id=>match h.blk id with
   | some (.mapo es _)=>match aFind P kt k es 0,aZeroM P et with
    | some (some (_,v)),_=>some (withOk ok v true)
    | some none,some z=>some (withOk ok z false)
    | _,_=>none
   | _=>none
  | _=>none) else none
def aEntry (P:Program) (h:AH) (kt et:TypeId) (m k:AV):Option (AV×AH) :=
 if xe P kt k k=some true then (match m with
  | .map id=>match h.blk id with
   | some (.mapo es 0)=>match aFind P kt k es 0,aZeroM P et with
    | some (some (i,v)),_=>some (.tup [v,.int .i64 i],h)
    | some none,some z=>some (.tup [z,.int .i64 es.length],h.put id (.mapo (es++[(k,z)]) 0))
    | _,_=>none
   | _=>none
  | _=>none) else none
def aEntryStore (h:AH) (m s x:AV):Option AH :=
 match m,s with
 | .map id,.int _ n=>match h.blk id with
  | some (.mapo es 0)=>if 0<=n then (match es[n.toNat]? with
   | some e=>some (h.put id (.mapo (es.set n.toNat (e.1,x.zcl)) 0))
   | none=>none) else none
  | _=>none
 | _,_=>none
def aMapPut (P:Program) (h:AH) (kt:TypeId) (m k x:AV):Option AH :=
 if xe P kt k k=some true then (match m with
  | .map id=>match h.blk id with
   | some (.mapo es c)=>match aFind P kt k es 0 with
    | some (some (i,_))=>some (h.put id (.mapo (es.set i (k,x.zcl)) c))
    | some none=>some (h.put id (.mapo (es++[(k,x.zcl)]) c))
    | none=>none
   | _=>none
  | _=>none) else none

def aRecv (P:Program) (h:AH) (t:TypeId) (v:AV) (name:String):Option (FuncId×AV) :=
 match P.info? t with
 | some i=>match i.methods.toList.find? (λm=>m.name==name) with
  | some m=>if m.path.isEmpty then (match m.func with
   | some (f,p)=>match P.underlying t,p with
    | some (.pointer _),true=>some (f,v)
    | some (.pointer e),false=>match v,P.underlying e,P.info? e with
     | .ptr id off,some d,some j=>(aLoad h (yh d) j.size (.ptr id off)).map λx=>(f,tyfix P e x)
     | _,_,_=>none
    | some _,false=>some (f,v)
    | _,_=>none
   | none=>none) else none
  | none=>none
 | none=>none
def zw (P:Program) (o:Oper) (env:List AV) (h:AH):Res :=
 match o.op with
 | .move x | .assign x=>if yy x then .ok (tyfix P o.type (ev env x)) h else .fail
 | .pick c a b=>if yy a&&yy b&&yy c then (match ev env c with
  | .bool t=>.ok (if t then ev env a else ev env b) h
  | _=>.fail) else .fail
 | .alloc t=>match xD P t with
  | some cs=>.ok (.ptr h.blks.length 0) (h.new (.cells cs))
  | none=>.fail
 | .box t x=>if yy x then (match (tyfix P t (ev env x)).cells? with
  | some cs=>.ok (.ptr h.blks.length 0) (h.new (.cells cs))
  | none=>.fail) else .fail
 | .build t parts=>if parts.all λp=>yy p.2 then (match P.underlying t,xD P t with
  | some (.struct fs),some z=>match va P fs with
   | some pl=>oo h ((qd (λi=>pl[i]?) z (xB P (.struct fs) env parts)).map .agg)
   | none=>.fail
  | some (.array n e),some z=>match P.info? e with
   | some j=>oo h ((qd (λi=>some (i * j.size,j.size)) z (xB P (.array n e) env parts)).map .agg)
   | none=>.fail
  | _,_=>.fail) else .fail
 | .load t a=>match P.underlying t,P.info? t with
  | some d,some i=>oo h ((aLoad h (yh d) i.size (ev env a)).map (tyfix P t))
  | _,_=>.fail
 | .store t a x=>if yy x then (match P.info? t with
  | some i=>oh (aStore h i.size (ev env a) (tyfix P t (ev env x)))
  | none=>.fail) else .fail
 | .nilCheck x=>if yy x then (match ev env x with
  | .ptr id o=>.ok (.ptr id o) h
  | .fptr cs=>.ok (.fptr cs) h
  | .rptr id t k n p=>.ok (.rptr id t k n p) h
  | .gptr m=>.ok (.gptr m) h
  | .fn (.func f) a b=>.ok (.fn (.func f) a b) h
  | _=>.fail) else .fail
 | .binOp op t x y _=>if yy x&&yy y then (match aNilq P op t h (ev env x) (ev env y) with
  | some S=>.any S
  | none=>oo h (yH P op t (ev env x) (ev env y))) else .fail
 | .unOp op _ x=>if yy x then oo h (aUn op (ev env x)) else .fail
 | .convert s t x=>if yy x then (match P.underlying s,P.underlying t with
  | some _,some d=>oo h (aConvert d (ev env x))
  | _,_=>.fail) else .fail
 | .makeFunc f a b=>if a.all yy&&b.all yy then .ok (.fn f (a.toList.map (ev env)) (b.toList.map (ev env))) h else .fail
 | .slice t x lo hi mx=>if yy x&&lo.all yy&&hi.all yy&&mx.all yy then (match P.underlying t with
  | some .string=>match ev env x with
   | .str s=>oo h (aSlice (.str s) (lo.map (ev env)) (hi.map (ev env)) (mx.map (ev env)))
   | _=>.fail
  | some (.slice e)=>match P.info? e with
   | some i=>match tyfix P t (ev env x) with
    | .sl k es=>if k=i.size then oo h (aSlice (.sl k es) (lo.map (ev env)) (hi.map (ev env)) (mx.map (ev env))) else .fail
    | .osl q k es=>if k=i.size then oo h (aSlice (.osl q k es) (lo.map (ev env)) (hi.map (ev env)) (mx.map (ev env))) else .fail
    | _=>.fail
   | none=>.fail
  | _=>.fail) else .fail
 | .fieldAddr t x f=>match fieldOff P t f with
  | some (off,u)=>match P.info? u with
   | some i=>if i.size=0 \/ yy x=false then .fail else oo h (qz off (ev env x))
   | none=>.fail
  | none=>.fail
 | .field t x f=>match fieldOff P t f with
  | some (off,u)=>match P.underlying u,P.info? u with
   | some d,some i=>if yy x then oo h ((aPart (yh d) off i.size (ev env x)).map (tyfix P u)) else .fail
   | _,_=>.fail
  | none=>.fail
 | .indexAddr t x i=>if yy x&&yy i then (match P.underlying t with
  | some (.slice e)=>match P.info? e with
   | some j=>oo h (qy j.size (ev env x) (ev env i))
   | none=>.fail
  | some (.array n e)=>match P.info? e with
   | some j=>oo h (aIndexArr n j.size (ev env x) (ev env i))
   | none=>.fail
  | _=>.fail) else .fail
 | .index t x i=>if yy x&&yy i then (match P.underlying t with
  | some .string=>oo h (aIndexStr (ev env x) (ev env i))
  | some (.array n e)=>match P.underlying e,P.info? e with
   | some d,some j=>oo h ((aIndexAgg (yh d) n j.size (ev env x) (ev env i)).map (tyfix P e))
   | _,_=>.fail
  | _=>.fail) else .fail
 | .extract t i=>if yy t then (match ev env t with
  | .tup vs=>oo h ((vs[i]?).map (tyfix P o.type))
  | _=>.fail) else .fail
 | .buildSlice t n parts=>if parts.all λp=>yy p.2 then (match P.underlying t with
  | some (.slice e)=>match P.info? e,xD P e with
   | some i,some z=>if 0 < i.size/\n * i.size<=65536/\z.length=i.size then
     (match (qd (λj=>some (j * i.size,i.size)) ((List.replicate n z).flatten) (xB P (.slice e) env parts)) with
           | some cs=>match x5 cs with
             | some cs=>.ok (.osl none i.size (rows i.size n cs)) h
             | none=>.fail
           | none=>.fail) else .fail
   | _,_=>.fail
  | _=>.fail) else .fail
 | .call c=>if c.args.all yy&&c.args.size==c.argTypes.size then (match c.callee with
  | .builtin b=>vP P h b c.argTypes.toList (c.args.toList.map (ev env))
  | .value f=>if yy f=false then .fail else match ev env f with
   | .fn (.func g) first caps=>.call g (first++(c.args.toList.zip c.argTypes.toList).map (λp=>tyfix P p.2 (ev env p.1))++caps)
   | .yld id=>.round id ((c.args.toList.zip c.argTypes.toList).map (λp=>tyfix P p.2 (ev env p.1)))
   | _=>.fail
  | .invoke x name=>if yy x=false then .fail else match ev env x with
   | .iface t v=>match aRecv P h t v name with
    | some (g,b)=>.call g (b::(c.args.toList.zip c.argTypes.toList).map (λp=>tyfix P p.2 (ev env p.1)))
    | none=>.fail
   | _=>.fail) else .fail
 | .range t x=>if yy x then (match P.underlying t,ev env x with
  | some .string,.str s=>.ok (.ptr h.blks.length 0) (h.new (.siter s 0))
  | _,_=>.fail) else .fail
 | .next x str=>if yy x&&str then aNext h (ev env x) else .fail
 | .makeMap _ none=>.ok (.map h.blks.length) (h.new (.mapo [] 0))
 | .lookup t x i ok=>if yy x&&yy i then (match P.underlying t with
  | some (.map kt et)=>oo h (aLookup P h kt et ok (ev env x) (ev env i))
  | _=>.fail) else .fail
 | .mapEntry t x i=>if yy x&&yy i then (match P.underlying t with
  | some (.map kt et)=>ovh (aEntry P h kt et (ev env x) (ev env i))
  | _=>.fail) else .fail
 | .entryStore _ x i y=>if yy x&&yy i&&yy y then oh (aEntryStore h (ev env x) (ev env i) (ev env y)) else .fail
 | .mapUpdate t x i y=>if yy x&&yy i&&yy y then (match P.underlying t with
  | some (.map kt _)=>oh (aMapPut P h kt (ev env x) (ev env i) (ev env y))
  | _=>.fail) else .fail
 | _=>.fail

end Go.Vv
