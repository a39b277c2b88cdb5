/- Steps that nobody needs to tell: found by instances. -/
import Derived.Test.YtcdgimmdofbjdaaGreatVvMr
import Derived.Test.YtcdgimmdofbjdaaGreatVvK
set_option linter.all false
open Option renaming some→aa
open Option renaming none→ac
namespace Go.Vv
open Go
variable{fn:Func}
class GT(x:Operand)(env:List AV)(v:outParam AV):Prop where
 out:yy env x=aa v
class ST(d:Option Tmp)(env:List AV)(v:AV)(env':outParam (List AV)):Prop where
 out:tX d env v=aa env'
class TY(v:AV)(v':outParam AV):Prop where
 out:tyo v=aa v'
section
variable{v a0 a1 a2 a3 a4 a5 a6 a7 a8 a9 a10 a11 a12 a13 a14 a15:AV}{r r':List AV}{n:Nat}
instance{env:List AV}:ST ac env v env:=⟨rfl⟩
instance:GT (.tmp 0) (a0::r) a0:=⟨rfl⟩
instance:ST (aa 0) (a0::r) v (v::r):=⟨rfl⟩
instance:GT (.tmp 1) (a0::a1::r) a1:=⟨rfl⟩
instance:ST (aa 1) (a0::a1::r) v (a0::v::r):=⟨rfl⟩
instance:GT (.tmp 2) (a0::a1::a2::r) a2:=⟨rfl⟩
instance:ST (aa 2) (a0::a1::a2::r) v (a0::a1::v::r):=⟨rfl⟩
instance:GT (.tmp 3) (a0::a1::a2::a3::r) a3:=⟨rfl⟩
instance:ST (aa 3) (a0::a1::a2::a3::r) v (a0::a1::a2::v::r):=⟨rfl⟩
instance:GT (.tmp 4) (a0::a1::a2::a3::a4::r) a4:=⟨rfl⟩
instance:ST (aa 4) (a0::a1::a2::a3::a4::r) v (a0::a1::a2::a3::v::r):=⟨rfl⟩
instance:GT (.tmp 5) (a0::a1::a2::a3::a4::a5::r) a5:=⟨rfl⟩
instance:ST (aa 5) (a0::a1::a2::a3::a4::a5::r) v (a0::a1::a2::a3::a4::v::r):=⟨rfl⟩
instance:GT (.tmp 6) (a0::a1::a2::a3::a4::a5::a6::r) a6:=⟨rfl⟩
instance:ST (aa 6) (a0::a1::a2::a3::a4::a5::a6::r) v (a0::a1::a2::a3::a4::a5::v::r):=⟨rfl⟩
instance:GT (.tmp 7) (a0::a1::a2::a3::a4::a5::a6::a7::r) a7:=⟨rfl⟩
instance:ST (aa 7) (a0::a1::a2::a3::a4::a5::a6::a7::r) v (a0::a1::a2::a3::a4::a5::a6::v::r):=⟨rfl⟩
instance:GT (.tmp 8) (a0::a1::a2::a3::a4::a5::a6::a7::a8::r) a8:=⟨rfl⟩
instance:ST (aa 8) (a0::a1::a2::a3::a4::a5::a6::a7::a8::r) v (a0::a1::a2::a3::a4::a5::a6::a7::v::r):=⟨rfl⟩
instance:GT (.tmp 9) (a0::a1::a2::a3::a4::a5::a6::a7::a8::a9::r) a9:=⟨rfl⟩
instance:ST (aa 9) (a0::a1::a2::a3::a4::a5::a6::a7::a8::a9::r) v (a0::a1::a2::a3::a4::a5::a6::a7::a8::v::r):=⟨rfl⟩
instance:GT (.tmp 10) (a0::a1::a2::a3::a4::a5::a6::a7::a8::a9::a10::r) a10:=⟨rfl⟩
instance:ST (aa 10) (a0::a1::a2::a3::a4::a5::a6::a7::a8::a9::a10::r) v (a0::a1::a2::a3::a4::a5::a6::a7::a8::a9::v::r):=⟨rfl⟩
instance:GT (.tmp 11) (a0::a1::a2::a3::a4::a5::a6::a7::a8::a9::a10::a11::r) a11:=⟨rfl⟩
instance:ST (aa 11) (a0::a1::a2::a3::a4::a5::a6::a7::a8::a9::a10::a11::r) v (a0::a1::a2::a3::a4::a5::a6::a7::a8::a9::a10::v::r):=⟨rfl⟩
instance:GT (.tmp 12) (a0::a1::a2::a3::a4::a5::a6::a7::a8::a9::a10::a11::a12::r) a12:=⟨rfl⟩
instance:ST (aa 12) (a0::a1::a2::a3::a4::a5::a6::a7::a8::a9::a10::a11::a12::r) v (a0::a1::a2::a3::a4::a5::a6::a7::a8::a9::a10::a11::v::r):=⟨rfl⟩
instance:GT (.tmp 13) (a0::a1::a2::a3::a4::a5::a6::a7::a8::a9::a10::a11::a12::a13::r) a13:=⟨rfl⟩
instance:ST (aa 13) (a0::a1::a2::a3::a4::a5::a6::a7::a8::a9::a10::a11::a12::a13::r) v (a0::a1::a2::a3::a4::a5::a6::a7::a8::a9::a10::a11::a12::v::r):=⟨rfl⟩
instance:GT (.tmp 14) (a0::a1::a2::a3::a4::a5::a6::a7::a8::a9::a10::a11::a12::a13::a14::r) a14:=⟨rfl⟩
instance:ST (aa 14) (a0::a1::a2::a3::a4::a5::a6::a7::a8::a9::a10::a11::a12::a13::a14::r) v (a0::a1::a2::a3::a4::a5::a6::a7::a8::a9::a10::a11::a12::a13::v::r):=⟨rfl⟩
instance:GT (.tmp 15) (a0::a1::a2::a3::a4::a5::a6::a7::a8::a9::a10::a11::a12::a13::a14::a15::r) a15:=⟨rfl⟩
instance:ST (aa 15) (a0::a1::a2::a3::a4::a5::a6::a7::a8::a9::a10::a11::a12::a13::a14::a15::r) v (a0::a1::a2::a3::a4::a5::a6::a7::a8::a9::a10::a11::a12::a13::a14::v::r):=⟨rfl⟩
instance[g:GT (.tmp n) r v]:GT (.tmp (n+16)) (a0::a1::a2::a3::a4::a5::a6::a7::a8::a9::a10::a11::a12::a13::a14::a15::r) v:=⟨by have:=g.out;simpa[yy]using this⟩
instance[g:ST (aa n) r v r']:ST (aa (n+16)) (a0::a1::a2::a3::a4::a5::a6::a7::a8::a9::a10::a11::a12::a13::a14::a15::r) v (a0::a1::a2::a3::a4::a5::a6::a7::a8::a9::a10::a11::a12::a13::a14::a15::r'):=⟨by have:=g.out;simpa[tX]using this⟩
instance{env:List AV}{k:IntKind}{n:Int}:GT (.const (.int k n)) env (.int k n):=⟨rfl⟩
instance{env:List AV}{b:Bool}:GT (.const (.bool b)) env (.bool b):=⟨rfl⟩
class zzF(l:List UInt8)(k:Nat):Prop where
 out:l.length<=k
instance{k:Nat}:zzF [] k:=⟨lV _⟩
instance{a:UInt8}{l:List UInt8}{k:Nat}[i:zzF l k]:zzF (a::l) (k+1):=⟨gB i.out⟩
instance{env:List AV}{l:List UInt8}[i:zzF l 64]:GT (.const (.string ⟨List.toArray l⟩)) env (.str l):=⟨by
 have h:(ByteArray.mk (List.toArray l)).size<=maxLen:=lg (by simpa[ByteArray.size]using i.out) (by decide);simp[yy,cvo,h]⟩
instance{env:List AV}:GT (.const (.pointer ac)) env .er:=⟨rfl⟩
instance{env:List AV}:GT (.const (.map ac)) env .ef:=⟨rfl⟩
instance{env:List AV}:GT (.const .nilFunc) env .fC:=⟨rfl⟩
instance{env:List AV}:GT (.const .nilIface) env .eX:=⟨rfl⟩
instance{env:List AV}:GT (.const (.slice ac 0 0)) env .fT:=⟨rfl⟩
instance{env:List AV}{g:Nat}:GT (.global g) env (.de g):=⟨rfl⟩
instance{env:List AV}{f:FuncId}:GT (.func f) env (.fn (.func f) [] []):=⟨rfl⟩
end
instance{b}:TY (.bool b) (.bool b):=⟨rfl⟩
instance{k n}:TY (.int k n) (.int k n):=⟨rfl⟩
instance{s}:TY (.str s) (.str s):=⟨rfl⟩
instance{i o}:TY (.ptr i o) (.ptr i o):=⟨rfl⟩
instance{c}:TY (.fK c) (.fK c):=⟨rfl⟩
instance{k e}:TY (.sl k e) (.sl k e):=⟨rfl⟩
instance{q k e}:TY (.gW q k e) (.gW q k e):=⟨rfl⟩
instance{a b c d}:TY (.cu a b c d) (.cu a b c d):=⟨rfl⟩
instance{a b c d}:TY (.fo a b c d) (.fo a b c d):=⟨rfl⟩
instance{a b c d e}:TY (.fW a b c d e) (.fW a b c d e):=⟨rfl⟩
instance{a b c d e}:TY (.ep a b c d e) (.ep a b c d e):=⟨rfl⟩
instance{i}:TY (.map i) (.map i):=⟨rfl⟩
instance{f x y}:TY (.fn f x y) (.fn f x y):=⟨rfl⟩
instance{t v}:TY (.iface t v) (.iface t v):=⟨rfl⟩
instance{c}:TY (.agg c) (.agg c):=⟨rfl⟩
instance{c}:TY (.fl c) (.fl c):=⟨rfl⟩
instance{g}:TY (.de g) (.de g):=⟨rfl⟩
instance{i}:TY (.ca i) (.ca i):=⟨rfl⟩
instance:TY .er .er:=⟨rfl⟩
instance:TY .ef .ef:=⟨rfl⟩
instance:TY .fC .fC:=⟨rfl⟩
instance:TY .eX .eX:=⟨rfl⟩
instance{f x y}:TY (AV.cV (.fn f x y)) (.fn f x y):=⟨rfl⟩
instance{v:AV}{b:Bool}:TY (t6 true v b) (.fl [v,.bool b]):=⟨by rfl⟩
section
variable{α:Type}
class cR(n:Nat)(l:List α)(v:outParam α):Prop where
 out:l[n]?=aa v
instance{a:α}{l:List α}:cR 0 (a::l) a:=⟨rfl⟩
instance{n:Nat}{a v:α}{l:List α}[i:cR n l v]:cR (n+1) (a::l) v:=⟨by simpa using i.out⟩
class aM(n:Nat)(l:List α)(r:outParam (List α)):Prop where
 out:l.drop n=r
 le:n<=l.length
instance{l:List α}:aM 0 l l:=⟨rfl,lV _⟩
instance{n:Nat}{a:α}{l r:List α}[i:aM n l r]:aM (n+1) (a::l) r:=⟨by simpa using i.out,gB i.le⟩
class aI(n:Nat)(l:List α)(r:outParam (List α)):Prop where
 out:l.take n=r/\n<=l.length
instance{l:List α}:aI 0 l []:=⟨by simp⟩
instance{n:Nat}{a:α}{l r:List α}[i:aI n l r]:aI (n+1) (a::l) (a::r):=⟨by have:=i.out;simp[this.1,this.2]⟩
end
class SPL(n:Nat)(vs l:List AV)(r:outParam (List AV)):Prop where
 out:yX l n vs=r/\n+vs.length<=l.length
class APP(l r:List q6)(s:outParam (List q6)):Prop where
 out:l++r=s
instance{r:List q6}:APP [] r r:=⟨rfl⟩
instance{a:q6}{l r s:List q6}[i:APP l r s]:APP (a::l) r (a::s):=⟨by rw[<- i.out];rfl⟩
class cK(l:List q6)(n:Nat)(b:q6)(s:outParam (List q6)):Prop where
 out:l.set n b=s
instance{a b:q6}{l:List q6}:cK (a::l) 0 b (b::l):=⟨rfl⟩
instance{a b:q6}{l s:List q6}{n:Nat}[i:cK l n b s]:cK (a::l) (n+1) b (a::s):=⟨by rw[<- i.out];rfl⟩
class cn(l:List q6)(s:outParam (List q6)):Prop where
 out:l=s
instance:cn [] []:=⟨rfl⟩
instance{a:q6}{l:List q6}:cn (a::l) (a::l):=⟨rfl⟩
instance{l r o s:List q6}[i:cn l o][j:APP o r s]:cn (l++r) s:=⟨by rw[i.out,j.out]⟩
instance{l o s:List q6}{n:Nat}{b:q6}[i:cn l o][j:cK o n b s]:cn (l.set n b) s:=⟨by rw[i.out,j.out]⟩
class FA(off:Nat)(a:AV)(v:outParam AV):Prop where
 out:tB off a=aa v
instance{off i:Nat}:FA off (.ptr i 0) (.ptr i off):=⟨by simp[tB]⟩
instance(priority:=low){off i o:Nat}:FA off (.ptr i o) (.ptr i (o+off)):=⟨rfl⟩
instance{off:Nat}{cs r:List AV}[i:aM off cs r]:FA off (.fK cs) (.fK r):=⟨by simp[tB,i.out]⟩
class BI(op:BinOp)(t:TypeId)(x y:AV)(v:outParam AV):Prop where
 out:∀P,yL P op t x y=aa v
section
variable{t:TypeId}{k:IntKind}{a b:Int}{x y:List UInt8}
instance:BI .add t (.int k a) (.int k b) (.int k (k.wrap (a+b))):=⟨λP=>by simp[yL,xC]⟩
instance:BI .sub t (.int k a) (.int k b) (.int k (k.wrap (a-b))):=⟨λP=>by simp[yL,xC]⟩
instance:BI .mul t (.int k a) (.int k b) (.int k (k.wrap (a*b))):=⟨λP=>by simp[yL,xC]⟩
instance:BI .and t (.int k a) (.int k b) (.int k (k.wrap ((BitVec.ofInt k.bits a &&& BitVec.ofInt k.bits b).toNat))):=⟨λP=>by simp[yL,xC]⟩
instance:BI .or t (.int k a) (.int k b) (.int k (k.wrap ((BitVec.ofInt k.bits a ||| BitVec.ofInt k.bits b).toNat))):=⟨λP=>by simp[yL,xC]⟩
instance:BI .andNot t (.int k a) (.int k b) (.int k (k.wrap ((BitVec.ofInt k.bits a &&& ~~~(BitVec.ofInt k.bits b)).toNat))):=⟨λP=>by simp[yL,xC]⟩
instance:BI .xor t (.int k a) (.int k b) (.int k (k.wrap ((BitVec.ofInt k.bits a ^^^ BitVec.ofInt k.bits b).toNat))):=⟨λP=>by simp[yL,xC]⟩
instance:BI .eql t (.int k a) (.int k b) (.bool (a==b)):=⟨λP=>by simp[yL,xC]⟩
instance:BI .neq t (.int k a) (.int k b) (.bool (a != b)):=⟨λP=>by simp[yL,xC]⟩
instance:BI .lss t (.int k a) (.int k b) (.bool (decide (a<b))):=⟨λP=>by simp[yL,xC]⟩
instance:BI .leq t (.int k a) (.int k b) (.bool (decide (a<=b))):=⟨λP=>by simp[yL,xC]⟩
instance:BI .gtr t (.int k a) (.int k b) (.bool (decide (a > b))):=⟨λP=>by simp[yL,xC]⟩
instance:BI .geq t (.int k a) (.int k b) (.bool (decide (a >= b))):=⟨λP=>by simp[yL,xC]⟩
instance:BI .eql t (.str x) (.str y) (.bool (x==y)):=⟨λP=>by rfl⟩
instance:BI .neq t (.str x) (.str y) (.bool !(x==y)):=⟨λP=>by rfl⟩
instance:BI .lss t (.str x) (.str y) (.bool (Op.bytesLess x y)):=⟨λP=>by rfl⟩
instance:BI .leq t (.str x) (.str y) (.bool (Op.bytesLess x y || x==y)):=⟨λP=>by rfl⟩
instance:BI .gtr t (.str x) (.str y) (.bool !(Op.bytesLess x y || x==y)):=⟨λP=>by rfl⟩
instance:BI .geq t (.str x) (.str y) (.bool !(Op.bytesLess x y)):=⟨λP=>by rfl⟩
instance{k2:IntKind}:BI .shr t (.int k a) (.int k2 1) (.int k (a.fdiv (2 ^ min (1:Int).toNat k.bits))):=⟨λP=>by simp[yL,xC]⟩
instance{k2:IntKind}:BI .shr t (.int k a) (.int k2 2) (.int k (a.fdiv (2 ^ min (2:Int).toNat k.bits))):=⟨λP=>by simp[yL,xC]⟩
instance{k2:IntKind}:BI .shr t (.int k a) (.int k2 3) (.int k (a.fdiv (2 ^ min (3:Int).toNat k.bits))):=⟨λP=>by simp[yL,xC]⟩
instance{k2:IntKind}:BI .shr t (.int k a) (.int k2 4) (.int k (a.fdiv (2 ^ min (4:Int).toNat k.bits))):=⟨λP=>by simp[yL,xC]⟩
instance{k2:IntKind}:BI .shr t (.int k a) (.int k2 5) (.int k (a.fdiv (2 ^ min (5:Int).toNat k.bits))):=⟨λP=>by simp[yL,xC]⟩
instance{k2:IntKind}:BI .shr t (.int k a) (.int k2 6) (.int k (a.fdiv (2 ^ min (6:Int).toNat k.bits))):=⟨λP=>by simp[yL,xC]⟩
instance{k2:IntKind}:BI .shr t (.int k a) (.int k2 7) (.int k (a.fdiv (2 ^ min (7:Int).toNat k.bits))):=⟨λP=>by simp[yL,xC]⟩
instance{k2:IntKind}:BI .shr t (.int k a) (.int k2 8) (.int k (a.fdiv (2 ^ min (8:Int).toNat k.bits))):=⟨λP=>by simp[yL,xC]⟩
instance{k2:IntKind}:BI .shr t (.int k a) (.int k2 16) (.int k (a.fdiv (2 ^ min (16:Int).toNat k.bits))):=⟨λP=>by simp[yL,xC]⟩
instance{k2:IntKind}:BI .shr t (.int k a) (.int k2 24) (.int k (a.fdiv (2 ^ min (24:Int).toNat k.bits))):=⟨λP=>by simp[yL,xC]⟩
instance{k2:IntKind}:BI .shr t (.int k a) (.int k2 32) (.int k (a.fdiv (2 ^ min (32:Int).toNat k.bits))):=⟨λP=>by simp[yL,xC]⟩
instance{k2:IntKind}:BI .shr t (.int k a) (.int k2 40) (.int k (a.fdiv (2 ^ min (40:Int).toNat k.bits))):=⟨λP=>by simp[yL,xC]⟩
instance{k2:IntKind}:BI .shr t (.int k a) (.int k2 48) (.int k (a.fdiv (2 ^ min (48:Int).toNat k.bits))):=⟨λP=>by simp[yL,xC]⟩
instance{k2:IntKind}:BI .shr t (.int k a) (.int k2 56) (.int k (a.fdiv (2 ^ min (56:Int).toNat k.bits))):=⟨λP=>by simp[yL,xC]⟩
instance{k2:IntKind}:BI .shr t (.int k a) (.int k2 63) (.int k (a.fdiv (2 ^ min (63:Int).toNat k.bits))):=⟨λP=>by simp[yL,xC]⟩
instance{k2:IntKind}:BI .shl t (.int k a) (.int k2 1) (.int k (k.wrap (a*2 ^ min (1:Int).toNat k.bits))):=⟨λP=>by simp[yL,xC]⟩
instance{k2:IntKind}:BI .shl t (.int k a) (.int k2 2) (.int k (k.wrap (a*2 ^ min (2:Int).toNat k.bits))):=⟨λP=>by simp[yL,xC]⟩
instance{k2:IntKind}:BI .shl t (.int k a) (.int k2 3) (.int k (k.wrap (a*2 ^ min (3:Int).toNat k.bits))):=⟨λP=>by simp[yL,xC]⟩
instance{k2:IntKind}:BI .shl t (.int k a) (.int k2 4) (.int k (k.wrap (a*2 ^ min (4:Int).toNat k.bits))):=⟨λP=>by simp[yL,xC]⟩
instance{k2:IntKind}:BI .shl t (.int k a) (.int k2 7) (.int k (k.wrap (a*2 ^ min (7:Int).toNat k.bits))):=⟨λP=>by simp[yL,xC]⟩
instance{k2:IntKind}:BI .shl t (.int k a) (.int k2 8) (.int k (k.wrap (a*2 ^ min (8:Int).toNat k.bits))):=⟨λP=>by simp[yL,xC]⟩
instance{k2:IntKind}:BI .shl t (.int k a) (.int k2 16) (.int k (k.wrap (a*2 ^ min (16:Int).toNat k.bits))):=⟨λP=>by simp[yL,xC]⟩
instance{k2:IntKind}:BI .shl t (.int k a) (.int k2 32) (.int k (k.wrap (a*2 ^ min (32:Int).toNat k.bits))):=⟨λP=>by simp[yL,xC]⟩
instance:BI .quo t (.int k a) (.int k 2) (.int k (k.wrap (a.tdiv 2))):=⟨λP=>by simp[yL,xC]⟩
instance:BI .rem t (.int k a) (.int k 2) (.int k (a.tmod 2)):=⟨λP=>by simp[yL,xC]⟩
instance:BI .quo t (.int k a) (.int k 3) (.int k (k.wrap (a.tdiv 3))):=⟨λP=>by simp[yL,xC]⟩
instance:BI .rem t (.int k a) (.int k 3) (.int k (a.tmod 3)):=⟨λP=>by simp[yL,xC]⟩
instance:BI .quo t (.int k a) (.int k 4) (.int k (k.wrap (a.tdiv 4))):=⟨λP=>by simp[yL,xC]⟩
instance:BI .rem t (.int k a) (.int k 4) (.int k (a.tmod 4)):=⟨λP=>by simp[yL,xC]⟩
instance:BI .quo t (.int k a) (.int k 7) (.int k (k.wrap (a.tdiv 7))):=⟨λP=>by simp[yL,xC]⟩
instance:BI .rem t (.int k a) (.int k 7) (.int k (a.tmod 7)):=⟨λP=>by simp[yL,xC]⟩
instance:BI .quo t (.int k a) (.int k 8) (.int k (k.wrap (a.tdiv 8))):=⟨λP=>by simp[yL,xC]⟩
instance:BI .rem t (.int k a) (.int k 8) (.int k (a.tmod 8)):=⟨λP=>by simp[yL,xC]⟩
instance:BI .quo t (.int k a) (.int k 10) (.int k (k.wrap (a.tdiv 10))):=⟨λP=>by simp[yL,xC]⟩
instance:BI .rem t (.int k a) (.int k 10) (.int k (a.tmod 10)):=⟨λP=>by simp[yL,xC]⟩
instance:BI .quo t (.int k a) (.int k 16) (.int k (k.wrap (a.tdiv 16))):=⟨λP=>by simp[yL,xC]⟩
instance:BI .rem t (.int k a) (.int k 16) (.int k (a.tmod 16)):=⟨λP=>by simp[yL,xC]⟩
instance:BI .quo t (.int k a) (.int k 32) (.int k (k.wrap (a.tdiv 32))):=⟨λP=>by simp[yL,xC]⟩
instance:BI .rem t (.int k a) (.int k 32) (.int k (a.tmod 32)):=⟨λP=>by simp[yL,xC]⟩
instance:BI .quo t (.int k a) (.int k 64) (.int k (k.wrap (a.tdiv 64))):=⟨λP=>by simp[yL,xC]⟩
instance:BI .rem t (.int k a) (.int k 64) (.int k (a.tmod 64)):=⟨λP=>by simp[yL,xC]⟩
instance:BI .quo t (.int k a) (.int k 100) (.int k (k.wrap (a.tdiv 100))):=⟨λP=>by simp[yL,xC]⟩
instance:BI .rem t (.int k a) (.int k 100) (.int k (a.tmod 100)):=⟨λP=>by simp[yL,xC]⟩
instance:BI .quo t (.int k a) (.int k 128) (.int k (k.wrap (a.tdiv 128))):=⟨λP=>by simp[yL,xC]⟩
instance:BI .rem t (.int k a) (.int k 128) (.int k (a.tmod 128)):=⟨λP=>by simp[yL,xC]⟩
instance:BI .quo t (.int k a) (.int k 256) (.int k (k.wrap (a.tdiv 256))):=⟨λP=>by simp[yL,xC]⟩
instance:BI .rem t (.int k a) (.int k 256) (.int k (a.tmod 256)):=⟨λP=>by simp[yL,xC]⟩
end
class UN(op:UnOp)(x:AV)(v:outParam AV):Prop where
 out:aUn op x=aa v
instance{b:Bool}:UN .not (.bool b) (.bool !b):=⟨rfl⟩
instance{k:IntKind}{n:Int}:UN .neg (.int k n) (.int k (k.wrap (0-n))):=⟨rfl⟩
class NA(d:TypeDesc):Prop where
 out:yd d=false
instance{k:IntKind}:NA (.int k):=⟨rfl⟩
instance:NA .string:=⟨rfl⟩
instance:NA .bool:=⟨rfl⟩
instance{e:TypeId}:NA (.slice e):=⟨rfl⟩
instance{e:TypeId}:NA (.pointer e):=⟨rfl⟩
instance{a b:TypeId}:NA (.map a b):=⟨rfl⟩
class TA(P:Program)(t:TypeId)(k:outParam Nat):Prop where
 out:∃d,Ty P t d k/\yd d=true
class SUC(k:Nat):Prop where
 out:∃j,k=j+1
instance{n:Nat}:SUC (n+1):=⟨⟨n,rfl⟩⟩
class IMP(b b':Bool):Prop where
 out:b=true->b'=true
instance{b:Bool}:IMP b b:=⟨id⟩
instance{a b c:Bool}[i:IMP a b]:IMP (a&&c) b:=⟨λh=>i.out (zxk h)⟩
class GGX(b:Bool)(w:AV)(v:outParam AV):Prop where
 out:b=true->w=v
instance{b o:Bool}{v:AV}[i:IMP b o]:GGX b (gv o v) v:=⟨λs=>by rw[i.out s,pn]⟩
instance(priority:=low){b:Bool}{w:AV}:GGX b w w:=⟨λ_=>rfl⟩
class GG(x:Operand)(env:List AV)(b:Bool)(v:outParam AV):Prop where
 out:b=true->yy env x=aa v
instance{x:Operand}{env:List AV}{b:Bool}{w v:AV}[i:GT x env w][j:GGX b w v]:GG x env b v:=⟨λo=>by rw[<- j.out o];exact i.out⟩
class cJ(P:Program)(t:TypeId)(v:AV)(v':outParam AV):Prop where
 out:w5 P t v=v'
instance{P:Program}{t:TypeId}{v v':AV}[i:TY v v']:cJ P t v v':=⟨zc i.out⟩
instance{P:Program}{t e:TypeId}{k:Nat}[i:El P t e k]:cJ P t .fT (.gW ac k []):=⟨zpR i⟩
class aZ(b t w b':Bool):Prop where
 out:b=true->t=w->b'=true
instance{b t w:Bool}:aZ b t w (t==w):=⟨λ_ h=>by simp_all⟩
instance{b o t w:Bool}[i:IMP b o]:aZ b t w (o&&(t==w)):=⟨λh e=>by rw[i.out h,e];cases w<;>rfl⟩
class aW(b t:Bool)(x y:AV)(v:outParam AV):Prop where
 out:b=true->(if t then x else y)=v
section
variable{b t q r c c':Bool}{k:IntKind}{m n:Int}
instance:aW b t (.bool q) (.bool r) (.bool (if t then q else r)):=⟨λ_=>zq1⟩
instance[i:aZ b t true c]:aW b t (gv c (.bool q)) (.bool r) (.bool (if t then q else r)):=⟨λh=>zq0 (i.out h)⟩
instance[i:aZ b t false c]:aW b t (.bool r) (gv c (.bool q)) (.bool (if t then r else q)):=⟨λh=>zqZ (i.out h)⟩
instance[i:aZ b t true c][j:aZ b t false c']:aW b t (gv c (.bool q)) (gv c' (.bool r)) (.bool (if t then q else r)):=⟨λh=>zqY (i.out h) (j.out h)⟩
instance(priority:=high)[i:aZ b t true c]:aW b t (gv c (.bool q)) (.bool false) (.bool (t&&q)):=⟨λh=>zoA (i.out h)⟩
instance(priority:=high)[i:aZ b t false c]:aW b t (.bool true) (gv c (.bool q)) (.bool (t || q)):=⟨λh=>zqW (i.out h)⟩
instance:aW b t (.int k m) (.int k n) (.int k (if t then m else n)):=⟨λ_=>zqX⟩
instance[i:aZ b t true c]:aW b t (gv c (.int k m)) (.int k n) (.int k (if t then m else n)):=⟨λh=>zoz (i.out h)⟩
instance[i:aZ b t false c]:aW b t (.int k n) (gv c (.int k m)) (.int k (if t then n else m)):=⟨λh=>zoy (i.out h)⟩
end
class cN(P:Program)(o:Oper)(env:List AV)(h:AH)(q:Bool)(v:outParam AV):Prop where
 out:q=true->zj P o env h=.ok v h
section
variable{P:Program}{env:List AV}{h h0:AH}{r':List q6}{d:Option Tmp}{t t' u:TypeId}{p:String}{a:Array Edge}{x y z:Operand}{v v' w w' b:AV}{id i j n k k' off f:Nat}{cs cs' r:List AV}{L L':List q6}{M:List Nat}{td:TypeDesc}{gd:Option (Nat×Bool)}{q tt:Bool}
instance[o:GG x env q v][s:cJ P t v v']:cN P ⟨d,.move x,t,p,a,gd⟩ env h q v':=⟨λC=>yS rfl (o.out C) s.out⟩
instance[o:GG x env q v][s:cJ P t v v']:cN P ⟨d,.assign x,t,p,a,gd⟩ env h q v':=⟨λC=>xJ rfl (o.out C) s.out⟩
instance[s:GG x env q (.bool tt)][E:GT y env v][C:GT z env w][D:aW q tt v w b]:cN P ⟨d,.pick x y z,t,p,a,gd⟩ env h q b:=⟨λo=>zlZ rfl (s.out o) E.out C.out (D.out o)⟩
instance[o:Fo P t f off u k][s:SUC k][C:GG x env q v][D:FA off v v']:cN P ⟨d,.fieldAddr t x f,t',p,a,gd⟩ env h q v':=⟨λE=>by
 obtain⟨j,rfl⟩:=s.out;exact oI rfl o (C.out E) D.out⟩
instance{op:BinOp}[s:GG x env q v][D:GG y env q v'][C:BI op t v v' w]:cN P ⟨d,.binOp op t x y u,t',p,a,gd⟩ env h q w:=⟨λo=>wp rfl (s.out o) (D.out o) (C.out P)⟩
instance{op:UnOp}[o:GG x env q v][s:UN op v w]:cN P ⟨d,.unOp op t x,t',p,a,gd⟩ env h q w:=⟨λC=>zu7 rfl (o.out C) s.out⟩
instance[o:GG x env q (.fl cs)][s:cR n cs v][C:cJ P t v v']:cN P ⟨d,.extract x n,t,p,a,gd⟩ env h q v':=⟨λD=>xI rfl (o.out D) s.out C.out⟩
instance[o:GG x env q (.fK cs)]:cN P ⟨d,.nilCheck x,t,p,a,gd⟩ env h q (.fK cs):=⟨λs=>me rfl (o.out s) rfl⟩
instance[o:GG x env q (.ptr i j)]:cN P ⟨d,.nilCheck x,t,p,a,gd⟩ env h q (.ptr i j):=⟨λs=>me rfl (o.out s) rfl⟩
instance[o:Ty P t td k][E:NA td][s:GG x env q (.ptr (h0.zh.length+j) off)][J:cn L L'][H:cR j L' (.cells cs)][C:cR off cs v][D:cJ P t v v']:cN P ⟨d,.load t x,t',p,a,gd⟩ env (h0.ext L M) q v':=⟨λI=>yT rfl o (s.out I) (by rw[J.out];exact H.out) (by rw[E.out];exact zA C.out) D.out⟩
instance[o:Ty P t td k][E:NA td][s:GG x env q (.fK cs)][D:cR 0 cs v][C:cJ P t v v']:cN P ⟨d,.load t x,t',p,a,gd⟩ env h q v':=⟨λH=>zkj rfl o (s.out H) (by rw[E.out];exact zA D.out) C.out⟩
instance[D:TA P t k][E:GG x env q (.ptr (h0.zh.length+j) off)][R:cn L L'][J:cR j L' (.cells cs)][o:aM off cs cs'][H:aI k cs' r]:cN P ⟨d,.load t x,t',p,a,gd⟩ env (h0.ext L M) q (.agg r):=⟨λK=>by
 obtain⟨td,I,O⟩:=D.out;have C:=o.out;have s:=H.out;refine yT rfl I (E.out K) (by rw[R.out];exact J.out) ?_ (zc (v:=.agg r) rfl);rw[O];refine zj2 (jI ?_) (by rw[C,s.1]);have:=s.2;rw[<- C,jC]at this;have:=o.le;omega⟩
instance[o:TA P t k][s:GG x env q (.fK cs)][C:aI k cs r]:cN P ⟨d,.load t x,t',p,a,gd⟩ env h q (.agg r):=⟨λE=>by
 obtain⟨td,D,H⟩:=o.out;have I:=C.out;refine zkj rfl D (s.out E) ?_ (zc (v:=.agg r) rfl);rw[H];exact zj2 (jI (by omega)) (by simp_all)⟩
class cy(v:AV)(cs:outParam (List AV)):Prop where
 out:v.cells?=aa cs
instance:cy (.agg cs) cs:=⟨rfl⟩
class ei(L:List q6)(n:outParam Nat):Prop where
 out:L.length=n
instance:ei [] 0:=⟨rfl⟩
instance{b0:q6}:ei [b0] 1:=⟨rfl⟩
instance{b0 o:q6}:ei [b0,o] 2:=⟨rfl⟩
instance{b0 s o:q6}:ei [b0,s,o] 3:=⟨rfl⟩
instance{b0 C s o:q6}:ei [b0,C,s,o] 4:=⟨rfl⟩
instance{b0 o C D s:q6}:ei [b0,o,C,D,s] 5:=⟨rfl⟩
instance{b0 o D E C s:q6}:ei [b0,o,D,E,C,s] 6:=⟨rfl⟩
instance{b0 o E H D s C:q6}:ei [b0,o,E,H,D,s,C] 7:=⟨rfl⟩
instance{b0 s H I E C D o:q6}:ei [b0,s,H,I,E,C,D,o] 8:=⟨rfl⟩
instance{b0 s I J H C E o D:q6}:ei [b0,s,I,J,H,C,E,o,D] 9:=⟨rfl⟩
instance{b0 s I J H C E o D K:q6}:ei [b0,s,I,J,H,C,E,o,D,K] 10:=⟨rfl⟩
instance{b0 C J K I D H s E O o:q6}:ei [b0,C,J,K,I,D,H,s,E,O,o] 11:=⟨rfl⟩
instance{b0 D K O J E I C H R s o:q6}:ei [b0,D,K,O,J,E,I,C,H,R,s,o] 12:=⟨rfl⟩
instance{b0 E O R K H J D I S C s o:q6}:ei [b0,E,O,R,K,H,J,D,I,S,C,s,o] 13:=⟨rfl⟩
instance{b0 H R S O I K E J T C s o D:q6}:ei [b0,H,R,S,O,I,K,E,J,T,C,s,o,D] 14:=⟨rfl⟩
instance{b0 I S T R J O H K U D C s E o:q6}:ei [b0,I,S,T,R,J,O,H,K,U,D,C,s,E,o] 15:=⟨rfl⟩
instance{b0 J T U S K R I O V E D C H o s:q6}:ei [b0,J,T,U,S,K,R,I,O,V,E,D,C,H,o,s] 16:=⟨rfl⟩
instance{b0 K U V T O S J R W H E D I s C o:q6}:ei [b0,K,U,V,T,O,S,J,R,W,H,E,D,I,s,C,o] 17:=⟨rfl⟩
instance{b0 O V W U R T K S X I H E J s D o C:q6}:ei [b0,O,V,W,U,R,T,K,S,X,I,H,E,J,s,D,o,C] 18:=⟨rfl⟩
instance{b0 O X T W R S V Y U E D K H s J o I C:q6}:ei [b0,O,X,T,W,R,S,V,Y,U,E,D,K,H,s,J,o,I,C] 19:=⟨rfl⟩
instance{b}:cy (.bool b) [.bool b]:=⟨rfl⟩
instance{k n}:cy (.int k n) [.int k n]:=⟨rfl⟩
instance{s}:cy (.str s) [.str s]:=⟨rfl⟩
instance{i o}:cy (.ptr i o) [.ptr i o]:=⟨rfl⟩
instance{c}:cy (.fK c) [.fK c]:=⟨rfl⟩
instance{k e}:cy (.sl k e) [.sl k e]:=⟨rfl⟩
instance{q k e}:cy (.gW q k e) [.gW q k e]:=⟨rfl⟩
instance{a b c d}:cy (.cu a b c d) [.cu a b c d]:=⟨rfl⟩
instance{a b c d}:cy (.fo a b c d) [.fo a b c d]:=⟨rfl⟩
instance{a b c d e}:cy (.fW a b c d e) [.fW a b c d e]:=⟨rfl⟩
instance{a b c d e}:cy (.ep a b c d e) [.ep a b c d e]:=⟨rfl⟩
instance{i}:cy (.map i) [.map i]:=⟨rfl⟩
instance{f x y}:cy (.fn f x y) [.fn f x y]:=⟨rfl⟩
instance{t v}:cy (.iface t v) [.iface t v]:=⟨rfl⟩
instance{g}:cy (.de g) [.de g]:=⟨rfl⟩
instance{i}:cy (.ca i) [.ca i]:=⟨rfl⟩
class bA(cs:List AV)(n:Nat):Prop where
 out:cs.length=n
instance:bA [] 0:=⟨rfl⟩
instance[i:bA cs n]:bA (v::cs) (n+1):=⟨by simp[i.out]⟩
class zzE(cs r:List AV):Prop where
 out:cs.length=r.length
instance:zzE [] []:=⟨rfl⟩
instance[i:zzE cs r]:zzE (v::cs) (w::r):=⟨by simp[i.out]⟩
instance(priority:=high)[i:zzE cs r]:SPL 0 cs r cs:=⟨by simp[yX,i.out]⟩
instance:SPL 0 [] r r:=⟨by simp[yX]⟩
instance[i:SPL 0 cs r cs']:SPL 0 (v::cs) (w::r) (v::cs'):=⟨by have:=i.out;simp only[yX,gM,ll,l8]at this ⊢;simp only[nr,i8,kc,this.1,iY];omega⟩
instance[i:SPL n cs r cs']:SPL (n+1) cs (w::r) (w::cs'):=⟨by have:=i.out;simp only[yX]at this ⊢;rw[show n+1+cs.length=n+cs.length+1 by omega];simp only[jR,i8,kc,this.1,nr,iY];omega⟩
class ZE(P:Program)(t:TypeId)(cs:outParam (List AV)):Prop where
 out:yY P t=aa cs
class fN(P:Program)(o:Oper)(env:List AV)(h:AH)(v:outParam AV)(h':outParam AH):Prop where
 out:zj P o env h=.ok v h'
instance[o:ZE P t cs][C:cn L L'][D:ei L' n][s:APP L' [.cells cs] r']:fN P ⟨d,.alloc t,t',p,a,gd⟩ env (h0.ext L M) (.ptr (h0.zh.length+n) 0) (h0.ext r' M):=⟨by rw[C.out,<- s.out];exact mB rfl o.out D.out⟩
instance[o:GT x env v][C:cJ P t v v'][D:cy v' cs][H:cn L L'][s:ei L' n][E:APP L' [.cells cs] r']:fN P ⟨d,.box t x,t',p,a,gd⟩ env (h0.ext L M) (.ptr (h0.zh.length+n) 0) (h0.ext r' M):=⟨by rw[H.out,<- E.out];exact zw9 rfl o.out C.out D.out s.out⟩
instance[C:Ty P t td k][D:GT x env (.ptr (h0.zh.length+j) off)][J:GT y env v][E:cJ P t v v'][H:cy v' cs][o:bA cs k][K:cn L L'][I:cR j L' (.cells r)][s:SPL off cs r cs'][i9:cK L' j (.cells cs') r'] :
  fN P ⟨d,.store t x y,t',p,a,gd⟩ env (h0.ext L M) wb (h0.ext r' M):=⟨by
 rw[K.out,<- i9.out];exact tc rfl C D.out J.out E.out H.out o.out I.out (jI (by have:=s.out.2;rw[o.out]at this;exact this)) s.out.1⟩
instance[C:TA P t k][D:GT x env (.ptr (h0.zh.length+j) off)][I:GT y env (.agg cs)][o:bA cs k][J:cn L L'][E:cR j L' (.cells r)][s:SPL off cs r cs'][i9:cK L' j (.cells cs') r'] :
  fN P ⟨d,.store t x y,t',p,a,gd⟩ env (h0.ext L M) wb (h0.ext r' M):=⟨by
 obtain⟨td,H,K⟩:=C.out;rw[J.out,<- i9.out];exact tc rfl H D.out I.out (zc (v:=.agg cs) rfl) rfl o.out E.out (jI (by have:=s.out.2;rw[o.out]at this;exact this)) s.out.1⟩
end
class aL(l:List Oper)(j:Nat)(d:outParam Nat):Prop where
 out:(l[j]?).bind (·.dst)=aa d
instance{d:Nat}{o:Op}{t:TypeId}{p:String}{a:Array Edge}{g:Option (Nat×Bool)}{l:List Oper}:aL (⟨aa d,o,t,p,a,g⟩::l) 0 d:=⟨rfl⟩
instance{o:Oper}{l:List Oper}{j d:Nat}[i:aL l j d]:aL (o::l) (j+1) d:=⟨by simpa using i.out⟩
class GB(w:AV)(want:Bool)(b:outParam Bool):Prop where
 out:∀(ops:Array Oper)(o:Oper) (env:List AV) (j d:Nat),o.guard=aa (j,want)->(ops[j]?).bind (·.dst)=aa d->env[d]?=aa w->aG ops o env=aa b
instance{b c want:Bool}:GB (gv b (.bool c)) want (b&&(c==want)):=⟨λ_ _ _ _ _ s o C=>zlt s o C⟩
instance{c want:Bool}:GB (.bool c) want (c==want):=⟨λ_ _ _ _ _ s o C=>by simp only[aG,s,o,C]⟩
class NE(a b:Nat):Prop where
 out:a≠b
instance{n:Nat}:NE 0 (n+1):=⟨by omega⟩
instance{n:Nat}:NE (n+1) 0:=⟨by omega⟩
instance{n m:Nat}[i:NE n m]:NE (n+1) (m+1):=⟨by have:=i.out;omega⟩
class NC(Ns:List Nat)(i:Nat):Prop where
 out:Ns.contains i=false
instance{i:Nat}:NC [] i:=⟨rfl⟩
instance{Ns:List Nat}{n i:Nat}[j:NE i n][k:NC Ns i]:NC (n::Ns) i:=⟨by have:=k.out;have:=j.out;simp_all⟩
class PAD(n:Nat)(l:List AV)(r:outParam (List AV)):Prop where
 out:l++List.replicate (n-l.length) wb=r
instance:PAD 0 [] []:=⟨rfl⟩
instance{n:Nat}{r:List AV}[i:PAD n [] r]:PAD (n+1) [] (wb::r):=⟨by have:=i.out;simp only[ll,lC,Nat.sub_zero]at this ⊢;rw[jU,this]⟩
instance{n:Nat}{a:AV}{l r:List AV}[i:PAD n l r]:PAD (n+1) (a::l) (a::r):=⟨by have:=i.out;rw[<- this];simp only[nr,Nat.add_sub_add_right,kc]⟩
theorem sL(n:Nat){k:Nat}{l r:List AV}(h:k=n)[i:PAD n l r]:l++List.replicate (k-l.length) wb=r:=by rw[h];exact i.out
class RL(P:Program)(env:List AV)(h:AH)(rs:List ResultVar)(vs:outParam (List AV)):Prop where
 out:sQ P env h rs=aa vs
instance{P:Program}{env:List AV}{h:AH}:RL P env h [] []:=⟨rfl⟩
section
variable{P:Program}{env:List AV}{h:AH}{rs:List ResultVar}{vs cs cs' r:List AV}{t a k j:Nat}{L L':List q6}{M:List Nat}{v v':AV}{td:TypeDesc}
instance[i:GT (.tmp t) env v][j:RL P env h rs vs]:RL P env h (.tmp t::rs) (v::vs):=⟨zjB i.out j.out⟩
instance[o:Ty P t td k][D:NA td][s:GT (.tmp a) env (.ptr (h.zh.length+j) 0)][I:cn L L'][H:cR j L' (.cells (v::cs))][C:cJ P t v v'][E:RL P env (h.ext L M) rs vs]:RL P env (h.ext L M) (.cell a t::rs) (v'::vs):=⟨zl6 o s.out (by rw[I.out];exact H.out) (by rw[D.out];exact zA rfl) C.out E.out⟩
instance[o:TA P t k][s:GT (.tmp a) env (.ptr (h.zh.length+j) 0)][J:cn L L'][H:cR j L' (.cells cs)][C:bA cs k][D:RL P env (h.ext L M) rs vs]:RL P env (h.ext L M) (.cell a t::rs) (.agg cs::vs):=⟨by
 obtain⟨td,E,I⟩:=o.out;have K:=C.out;exact zl6 E s.out (by rw[J.out];exact H.out) (by rw[I];exact zj2 (jI (by omega)) (by grind)) (zc (v:=.agg cs) rfl) D.out⟩
class TU(vs:List AV)(v:outParam AV):Prop where
 out:∀(P:Program)(fn:Func) (env:List AV) (h:AH),sQ P env h fn.results.toList=aa vs->zpK P fn env h=aa v
instance:TU [] (.fl []):=⟨λP fn env h e=>by simp only[zpK,e]⟩
instance:TU [v] v:=⟨λP fn env h e=>by simp only[zpK,e]⟩
instance:TU (v::v'::vs) (.fl (v::v'::vs)):=⟨λP fn env h e=>by simp only[zpK,e]⟩
theorem fr{K:AV->AH->Prop}{h0:AH}(C:fn.results=⟨rs⟩)[i:RL P env h rs vs][j:TU vs v](o:nQ h0 K v h):pi P fn h0 K .ret env h:=by
 have s:=j.out P fn env h (by rw[C];exact i.out);simp only[pi,s];exact o
theorem fe(C:fn.results=⟨rs⟩)[i:RL P env (h.ext L M) rs vs][j:TU vs v](s:v'.low h.zh.length h.zs.length=true)(o:g6 v v'):pi P fn h (λD hh=>D=v'/\hh=h) .ret env (h.ext L M):=fr C (wm o s ⟨rfl,rfl⟩)
theorem fz(s:fn.results=⟨rs⟩)[i:RL P env (h.ext L M) rs vs][j:TU vs v](o:v.low h.zh.length h.zs.length=true):pi P fn h (λC hh=>C=v/\hh=h) .ret env (h.ext L M):=fe s o (g6.refl _)
end
class dQ(P:Program)(env:List AV)(q:Bool)(xs:List Operand)(ts:List TypeId)(vs:outParam (List AV)):Prop where
 out:q=true->∃l,oz env xs ts=aa l/\Fx P l vs
section
variable{P:Program}{env env' xs' vs fs cs:List AV}{q:Bool}{xs:List Operand}{ts:List TypeId}{t:TypeId}{x:Operand}{v v':AV}{d:Option Tmp}{p:String}{a:Array Edge}{g:FuncId}{h h':AH}{gd:Option (Nat×Bool)}{rest:List Oper}{Q:List AV->AH->Prop}{ops:Array Oper}
instance:dQ P env q [] [] []:=⟨λ_=>⟨[],rfl,.nil⟩⟩
instance[i:GG x env q v][j:cJ P t v v'][k:dQ P env q xs ts vs]:dQ P env q (x::xs) (t::ts) (v'::vs):=⟨λo=>by
 obtain⟨l,C,s⟩:=k.out o;exact⟨_,xy (i.out o) C,.cons j.out s⟩⟩
theorem sc[i:dQ P env q xs ts vs](C:q=true):zj P ⟨d,.call ⟨.value (.func g),List.toArray xs,List.toArray ts⟩,t,p,a,gd⟩ env h=.call g vs:=by
 obtain⟨l,s,o⟩:=i.out C;exact ye rfl rfl rfl s o
theorem cg[s:GG x env q (.fn (.func g) fs cs)][i:dQ P env q xs ts vs](o:q=true):zj P ⟨d,.call ⟨.value x,List.toArray xs,List.toArray ts⟩,t,p,a,gd⟩ env h=.call g (fs++vs++cs):=by
 obtain⟨l,D,C⟩:=i.out o;exact zcM rfl rfl (s.out o) D C rfl
theorem cp[i:dQ P env true xs ts vs][j:ST d env v env'](hs:Spec P g vs h λr h'=>r=v/\h'=h)(o:zx P ops Q rest env' h):zx P ops Q (⟨d,.call ⟨.value (.func g),List.toArray xs,List.toArray ts⟩,t,p,a,ac⟩::rest) env h :=
 yf rfl (sc rfl) hs j.out o
end
theorem gg{x:Operand}{env:List AV}{v:AV}[i:GT x env v]:yy env x=aa v:=i.out
theorem ss{d:Option Tmp}{env env':List AV}{v:AV}[i:ST d env v env']:tX d env v=aa env':=i.out
theorem oi{α:Type}{a b:α}(h:aa a=aa b):a=b:=ky h
class bc(a:AV)(n:outParam Nat):Prop where
 out:zpM a=aa n
section
variable{α:Type}{z n i t q' p k':Nat}{row:α->List AV}{L:List α}{es:List (List AV)}{qo:Option Nat}
instance:bc (.sl z (L.map row)) L.length:=⟨vO⟩
instance:bc (.gW qo z (L.map row)) L.length:=⟨zrs⟩
instance(priority:=low):bc (.sl z es) es.length:=⟨rfl⟩
instance(priority:=low):bc (.gW qo z es) es.length:=⟨rfl⟩
instance:bc (.fo i t z n) n:=⟨rfl⟩
instance:bc (.cu z i t n) n:=⟨rfl⟩
instance:bc (.ep i t z n p) (n-p):=⟨rfl⟩
end
class ISS(d:TypeDesc):Prop where
 out:d=.string
instance:ISS .string:=⟨rfl⟩
class LN(P:Program)(t:TypeId)(v:AV)(n:outParam Nat):Prop where
 out:∀(o:Oper)(env:List AV) (h:AH) (c:Call) (x:Operand),o.op=.call c->c.callee=.builtin .len->c.args=#[x]->c.argTypes=#[t]->yy env x=aa v->zj P o env h=.len n (.int .i64 n) h
instance{P:Program}{t:TypeId}{d:TypeDesc}{k:Nat}{s:List UInt8}[i:Ty P t d k][j:ISS d]:LN P t (.str s) s.length:=⟨λo env h c x E C I D H=>by
 have:=j.out;subst this;exact zjx E C I D i H⟩
instance{P:Program}{t e:TypeId}{k n:Nat}{v:AV}[i:El P t e k][j:bc v n]:LN P t v n:=⟨λo env h c x D s H C E=>wj D s H C i E j.out⟩
class ISL(a:AV)(α:outParam Type)(z:outParam Nat)(row:outParam (α->List AV))(L:outParam (List α)):Prop where
 out:zqq a z row L
instance{α:Type}{z:Nat}{row:α->List AV}{L:List α}:ISL (.sl z (L.map row)) α z row L:=⟨oF⟩
instance{α:Type}{q:Option Nat}{z:Nat}{row:α->List AV}{L:List α}:ISL (.gW q z (L.map row)) α z row L:=⟨zza⟩
section
variable{P:Program}{env env':List AV}{q want b:Bool}{t t' e:TypeId}{x i:Operand}{v v' w:AV}{d:Option Tmp}{p:String}{a:Array Edge}{h:AH}{rest l:List Oper}{Q:List AV->AH->Prop}{ops:Array Oper}{n j m z:Nat}{nn:Int}{k:IntKind}{α:Type}{row:α->List AV}{L:List α}{y:α}{Ns:List Nat}{F:Nat->AH->Prop}{i9:Nat}
theorem ln[o:GT x env v][s:LN P t v n][C:ST d env (.int .i64 n) env'](D:n<=maxLen->zx P ops Q rest env' h):zx P ops Q (⟨d,.call ⟨.builtin .len,List.toArray [x],List.toArray [t]⟩,t',p,a,ac⟩::rest) env h :=
 zir rfl (s.out _ _ _ _ _ rfl rfl rfl rfl o.out) C.out D
theorem dE[C:aL l j m][J:GT (.tmp m) env w][H:GB w want b][o:GG x env b v][E:LN P t v n][D:ST d env (gv b (.int .i64 n)) env'](s:(b=true->n<=maxLen)->zx P (List.toArray l) Q rest env' h) :
  zx P (List.toArray l) Q (⟨d,.call ⟨.builtin .len,List.toArray [x],List.toArray [t]⟩,t',p,a,aa (j,want)⟩::rest) env h :=
 zoH (H.out _ _ _ _ _ rfl (by simpa using C.out) J.out) (λI=>E.out _ _ _ _ _ rfl rfl rfl rfl (o.out I)) D.out s
theorem ix[o:El P t e z][s:GT x env v][I:GT i env (.int k nn)][D:ISL v α z row L](E:zR L nn=aa y)[H:ST d env (.fK (row y)) env'](C:zx P ops Q rest env' h):zx P ops Q (⟨d,.indexAddr t x i,t',p,a,ac⟩::rest) env h :=
 zt rfl (nj rfl o s.out I.out D.out E) H.out C
theorem gix[Inhabited α][E:aL l j m][R:GT (.tmp m) env w][O:GB w want b][s:El P t e z][C:GG x env b v][K:GG i env b (.int k nn)][H:ISL v α z row L](I:b=true->0<=nn/\nn<L.length)[J:ST d env (gv b (.fK (row (L.getD nn.toNat default)))) env'](D:zx P (List.toArray l) Q rest env' h) :
  zx P (List.toArray l) Q (⟨d,.indexAddr t x i,t',p,a,aa (j,want)⟩::rest) env h :=
 qr (O.out _ _ _ _ _ rfl (by simpa using E.out) R.out) (λo=>zcK default rfl s (C.out o) (K.out o) H.out (I o)) J.out D
theorem qd[Inhabited α][NC Ns i9][E:aL l j m][R:GT (.tmp m) env w][O:GB w want b][s:El P t e z][C:GG x env b v][K:GG i env b (.int k nn)][H:ISL v α z row L](I:b=true->0<=nn/\nn<L.length)[J:ST d env (gv b (.fK (row (L.getD nn.toNat default)))) env'](D:zI P (List.toArray l) Ns F Q (i9+1) rest env' h) :
  zI P (List.toArray l) Ns F Q i9 (⟨d,.indexAddr t x i,t',p,a,aa (j,want)⟩::rest) env h :=
 vh NC.out (O.out _ _ _ _ _ rfl (by simpa using E.out) R.out) (λo=>zcK default rfl s (C.out o) (K.out o) H.out (I o)) J.out D
theorem mS[NC Ns i9][o:El P t e z][s:GT x env v][I:GT i env (.int k nn)][D:ISL v α z row L](E:zR L nn=aa y)[H:ST d env (.fK (row y)) env'](C:zI P ops Ns F Q (i9+1) rest env' h):zI P ops Ns F Q i9 (⟨d,.indexAddr t x i,t',p,a,ac⟩::rest) env h :=
 yq NC.out rfl (nj rfl o s.out I.out D.out E) H.out C
end
abbrev yb(v:AV)(h:AH):AV->AH->Prop:=λrr hh=>rr=v/\hh=h
class LEV(a b:AV):Prop where
 out:g6 a b
class ej(a b:List AV):Prop where
 o:fc a b
instance{a:AV}:LEV a a:=⟨g6.refl _⟩
instance{q:Option Nat}{k:Nat}{e:List (List AV)}:LEV (.gW q k e) (.sl k e):=⟨g6.gW _ _ _⟩
instance:ej [] []:=⟨fc.nil⟩
instance{a:AV}{r s:List AV}[i:ej r s]:ej (a::r) (.any::s):=⟨.drop i.o⟩
instance{a b:AV}{r s:List AV}[j:LEV a b][i:ej r s]:ej (a::r) (b::s):=⟨.cons j.out i.o⟩
instance{l r:List AV}[i:ej l r]:LEV (.fl l) (.fl r):=⟨.fl i.o⟩
class R(p:Prop)(G:outParam Prop):Prop where
 r:G->p
instance(priority:=low) R.refl {p:Prop}:R p p:=⟨id⟩
section
variable{P:Program}{ops:Array Oper}{F:Nat->AH->Prop}{Q:List AV->AH->Prop}{QS:Exit->List AV->AH->Prop}{rest l:List Oper}{env env':List AV}{h h0 h':AH}{G:Prop}{d:Option Tmp}{op:Op}{t:TypeId}{p:String}{a:Array Edge}{x:Operand}{v v' w:AV}{id i j n:Nat}{A B:Code}{want b:Bool}{N:List AV->AH->Prop}
instance[o:cN P ⟨d,op,t,p,a,ac⟩ env h true v][s:ST d env v env'][D:R (zx P ops Q rest env' h) G]:R (zx P ops Q (⟨d,op,t,p,a,ac⟩::rest) env h) G:=⟨λC=>zt rfl (o.out rfl) s.out (D.r C)⟩
instance[o:cN P ⟨d,op,t,p,a,ac⟩ env h true v][s:ST d env v env'][D:R (zI P ops [] F Q (i+1) rest env' h) G]:R (zI P ops [] F Q i (⟨d,op,t,p,a,ac⟩::rest) env h) G:=⟨λC=>yq rfl rfl (o.out rfl) s.out (D.r C)⟩
instance[o:aL l j n][s:GT (.tmp n) env w][H:GB w want b][E:cN P ⟨d,op,t,p,a,aa (j,want)⟩ env h b v][C:ST d env (gv b v) env'][D:R (zx P (List.toArray l) Q rest env' h) G]:R (zx P (List.toArray l) Q (⟨d,op,t,p,a,aa (j,want)⟩::rest) env h) G:=⟨λI=>qr (H.out _ _ _ _ _ rfl (by simpa using o.out) s.out) E.out C.out (D.r I)⟩
instance[o:aL l j n][s:GT (.tmp n) env w][H:GB w want b][E:cN P ⟨d,op,t,p,a,aa (j,want)⟩ env h b v][C:ST d env (gv b v) env'][D:R (zI P (List.toArray l) [] F Q (i+1) rest env' h) G]:R (zI P (List.toArray l) [] F Q i (⟨d,op,t,p,a,aa (j,want)⟩::rest) env h) G:=⟨λI=>vh rfl (H.out _ _ _ _ _ rfl (by simpa using o.out) s.out) E.out C.out (D.r I)⟩
instance[o:fN P ⟨d,op,t,p,a,ac⟩ env h v h'][s:ST d env v env'][D:R (zx P ops Q rest env' h') G]:R (zx P ops Q (⟨d,op,t,p,a,ac⟩::rest) env h) G:=⟨λC=>zt rfl o.out s.out (D.r C)⟩
instance[i:R (Q env h) G]:R (zx P ops Q [] env h) G:=⟨λo=>yB (i.r o)⟩
instance{Ns:List Nat}{i:Nat}[j:R (Q env h) G]:R (zI P ops Ns F Q i [] env h) G:=⟨λo=>zgc (j.r o)⟩
instance(priority:=low){Ns:List Nat}[o:NC Ns i][D:cN P ⟨d,op,t,p,a,ac⟩ env h true v][s:ST d env v env'][C:R (zI P ops Ns F Q (i+1) rest env' h) G]:R (zI P ops Ns F Q i (⟨d,op,t,p,a,ac⟩::rest) env h) G:=⟨λE=>yq o.out rfl (D.out rfl) s.out (C.r E)⟩
instance(priority:=low){Ns:List Nat}[o:NC Ns i][s:aL l j n][C:GT (.tmp n) env w][I:GB w want b][H:cN P ⟨d,op,t,p,a,aa (j,want)⟩ env h b v][D:ST d env (gv b v) env'][E:R (zI P (List.toArray l) Ns F Q (i+1) rest env' h) G]:R (zI P (List.toArray l) Ns F Q i (⟨d,op,t,p,a,aa (j,want)⟩::rest) env h) G:=⟨λJ=>vh o.out (I.out _ _ _ _ _ rfl (by simpa using s.out) C.out) H.out D.out (E.r J)⟩
instance[i:R (vi P A (zog P h B QS) env h) G]:R (vi P (.seq A B) QS env h) G:=⟨λk=>wr (i.r k)⟩
instance[i:R (zx P (List.toArray l) (QS .normal) l env h) G]:R (vi P (.region id (List.toArray l) false) QS env h) G:=⟨λk=>yF (i.r k)⟩
instance[i:R (vi P A (ov id QS) env h) G]:R (vi P (.block id A) QS env h) G:=⟨λk=>mo (i.r k)⟩
instance[i:R (QS .normal env h) G]:R (vi P .skip QS env h) G:=⟨λk=>zjD (i.r k)⟩
instance[i:R (QS .normal env h) G]:R (vi P (.label id) QS env h) G:=⟨λk=>zqR (i.r k)⟩
instance[i:R (QS .ret env h) G]:R (vi P .ret QS env h) G:=⟨λk=>zor (i.r k)⟩
instance[i:R (QS (.exit id) env h) G]:R (vi P (.exit id) QS env h) G:=⟨λk=>zmc (i.r k)⟩
instance[i:R (vi P B QS env h) G]:R (zog P h0 B QS .normal env h) G:=⟨λk=>wt (i.r k)⟩
instance[i:R (QS .ret env h) G]:R (zog P h0 B QS .ret env h) G:=⟨λk=>zme (i.r k)⟩
instance[i:R (QS (.exit id) env h) G]:R (zog P h0 B QS (.exit id) env h) G:=⟨λk=>zbk (i.r k)⟩
instance[i:R (QS .normal env h) G]:R (ov id QS .normal env h) G:=⟨λk=>zin (i.r k)⟩
instance[i:R (QS .ret env h) G]:R (ov id QS .ret env h) G:=⟨λk=>zim (i.r k)⟩
instance[i:R (QS .normal env h) G]:R (ov id QS (.exit id) env h) G:=⟨λk=>zau (i.r k)⟩
instance[i:R (QS .ret env h) G]:R (sn N QS .ret env h) G:=⟨λk=>zkX (i.r k)⟩
instance[i:R (QS (.exit id) env h) G]:R (sn N QS (.exit id) env h) G:=⟨λk=>zat (i.r k)⟩
instance[i:R (N env h) G]:R (sn N QS .normal env h) G:=⟨λk=>zmf (i.r k)⟩
instance{fn:Func}{K:AV->AH->Prop}[i:R (pi P fn h0 K .ret env h) G]:R (pi P fn h0 K .normal env h) G:=⟨λk=>zvj (i.r k)⟩
end
end Go.Vv
namespace Go.Vv
open Go Go.RowKit
variable{n i:Nat}{B':List q6}{T':List Nat}{t e:TypeId}{x:Operand}
section
variable{B:Nat}{w0 w:World}{g:Gh}{h:AH}
theorem zca{α:Type}{l:List α}{x:α}(e:(l.take n)[i]?=aa x):l[i]?=aa x:=by
 grind
theorem Rel.freeze(r:Rel B w0 g h w){q i k:Nat}{es:List (List AV)}(Q:h.zh[q]?=aa (.row i k es)) :
  ∃g',g.le g'/\Rel B w0 g' { h.put q .dead with zs:=h.zs.set i (es.length+1) } w/\g'.δ=g.δ/\∀N v,V g (.fo N i k es.length) v->V g' (.sl k es) v:=by
 obtain⟨K,t,F,C,I,A,H,E⟩:=r.rowAt Q
 let T:TI:=⟨es.length+1,ac,true⟩
 have y:t.n<T.n:=by grind
 have D:=Gh.fU (g:=g) (t':=T) F y C.symm;have O:=r.bG (t':=T) (nb:=.dead) F y C rfl K Q trivial (λ_ _ _ e=>by cases e) (λ_ _ _ e=>by cases e) (λ_ _ e=>by cases e);rcases E with rfl|⟨b,o,e,cs,ty,k1,k2,k3,k4,k5⟩
 ·refine⟨_,D,O,rfl,λN v m=>?_⟩;simp only[V]at m ⊢
  grind
 ·have z:∀(j:Nat)(u:TI) (l G:Nat),(g.fy i T).τ[j]?=aa u->u.loc=aa (b,l,G)->False:=by
   intro j u l G s J;simp only[Gh.fy]at s;by_cases hji:j=i
   ·grind
   ·rw[lR (λe=>hji e.symm)]at s;exact hji (r.fS _ _ _ _ b _ _ s F J k1)
  have Y:=O.cW (b:=b) (f:=λj=>if o<=j/\j<o+es.length*k then cs[j]? else ac)
   (λj v m=>by
    split at m
    ·rw[cell_of_row w b j cs ty (0,0) k2];exact m
    ·cases m)
   (λj c s _=>(r.sep j c i t b _ s F k1).symm)
   (λj u l G s J=>(z j u l G s J).elim)
  have p:=D.trans (Gh.dF (g.fy i T) b λj=>if o<=j/\j<o+es.length*k then cs[j]? else ac);refine⟨_,p,Y,rfl,λN v m=>?_⟩;simp only[V]at m ⊢;obtain⟨a,c,rfl,U,S,R,W,_,_,d⟩:=m;obtain rfl:t=R:=by simp_all
  refine⟨a,c,rfl,U,S,?_⟩;rcases d with⟨h0,_⟩|⟨b',X,rfl,d⟩
  ·simp_all
  ·have d:=d I.symm;rw[k1]at d;injection d with d;injection d with Z d;injection d with e2 _;obtain rfl:o=X:=by omega
   subst Z;refine .inr ⟨b,o,rfl,eo.2 ⟨A,VC.bv (k3.mono p) H λj v m=>?_⟩⟩;rw[ml]at m;split at m
   ·rename_i s;rw[lj,lr]at m;simp only[Gh.cW,Gh.fy,oS]
    simp_all
   ·cases m
end

theorem zna{P:Program}{B:Nat}{w0 w:World}[G:GOk P B w0](hb:Below B w0 w):GOk P w.heap.size w :=
 ⟨World.ShapedOpen.keptBut G.sh ((hb.mono G.sz).frame (λ_=>False)) (λ_ h=>h.elim),ob _,zlb G.lay G.sz hb⟩
def AV.eO:AV->Bool
 |.bool _|.int _ _|.str _=>true
 |.fl [.bool _]|.fl [.int _ _]|.fl [.int _ _,.bool _]=>true
 |_=>false
theorem V.eO{g g':Gh}{a:AV}{v:Value}(hs:a.eO=true)(b:V g a v):V g' a v:=by
 unfold AV.eO at hs;split at hs<;>first|(simpa only[V,VL]using b)|cases hs
theorem zp5{B:Nat}{w0 w:World}{g:Gh}{h:AH}(r:Rel B w0 g h w):(g.cut 0 0).lv (g0 w) :=
 ⟨λb j v e=>by
     have e:g.Φ b j=aa v:=e;simp only[g0,nK (r.em e)];exact r.eK b j v e,λi c e=>by simp[Gh.cut]at e,λi t e=>by simp[Gh.cut]at e⟩
theorem aV.aw{B:Nat}{w0 w:World}{g:Gh}{h:AH}(r:Rel B w0 g h w){id t k n:Nat}{es:List (List AV)}(q:h.g7 id=aa (.row t k es))(G:n=es.length){v:Value}(f:V g (.fo id t k n) v):V (g0 w) (.sl k es) v:=by
 subst G;obtain⟨_,H,C,D,u,m,l,p⟩:=r.rowAt q;simp only[V]at f ⊢;obtain⟨a,c,rfl,A,z,y,E,_,_,d⟩:=f;obtain rfl:H=y:=by simp_all
 refine⟨a,c,rfl,A,z,?_⟩;rcases d with⟨h0,_⟩|⟨J,F,rfl,d⟩
 ·simp_all
 ·have d:=d u.symm;rcases p with rfl|⟨b,o,e,cs,ty,k1,k2,k3,O,K⟩
  ·simp_all
  ·rw[k1]at d;injection d with d;injection d with I d;injection d with N _;obtain rfl:o=F:=by omega
   subst I;have q:b<w.heap.size:=(l5.1 k2).1;have s:VA (g0 w) es.flatten ((cs.toList.drop o).take (es.length*k)):=VA.fm (zp5 r) _ _ (VA.cut _ _ (qu l) k3);refine .inr ⟨b,o,rfl,eo.2 ⟨m,VC.bv s l λj v f=>?_⟩⟩;rw[ml]at f;split at f
   ·rw[lj,lr]at f;simp only[g0,nK q];rw[cell_of_row w b (o+j) cs ty (0,0) k2];exact f
   ·cases f
mutual
inductive aV(h:AH):AV->AV->Prop
 |low (a:AV) (hl:a.low 0 0=true):aV h a a
 |row (id t k n:Nat) (es:List (List AV)) (hb:h.g7 id=aa (.row t k es)) (hn:n=es.length):aV h (.fo id t k n) (.sl k es)
 |gW (q:Option Nat) (k:Nat) (es:List (List AV)) (hl:(AV.sl k es).low 0 0=true):aV h (.gW q k es) (.sl k es)
 |agg {cs bs:List AV} (x:RdL h cs bs) (ho:bs.all AV.one=true):aV h (.agg cs) (.agg bs)
inductive RdL(h:AH):List AV->List AV->Prop
 |nil:RdL h [] []
 |cons {a b:AV} {xs bs:List AV} (x:aV h a b) (y:RdL h xs bs):RdL h (a::xs) (b::bs)
end
theorem V.zzO{B:Nat}{w0 w:World}{g:Gh}{h:AH}(r:Rel B w0 g h w){a:AV}{v:Value}(b:a.low 0 0=true)(c:V g a v):V (g0 w) a v:=V.fm (zp5 r) _ _ (V.cut _ _ b c)
mutual
theorem aV.sound{B:Nat}{w0 w:World}{g:Gh}{h:AH}(r:Rel B w0 g h w):∀{a b:AV}{v:Value},aV h a b->V g a v->V (g0 w) b v
 |_,_,_,.low _ hl,hv=>V.zzO r hl hv
 |_,_,_,.row _ _ _ _ _ hb hn,hv=>aV.aw r hb hn hv
 |_,_,_,.gW q k es hl,hv=>V.zzO r hl (g6.gW q k es g _ hv)
 |_,_,_,.agg x ho,hv=>by
  simp only[V]at hv ⊢;obtain⟨vs,rfl,c⟩:=hv;exact⟨vs,rfl,VA.mk (RdL.sound r x c.f8) ho⟩
theorem RdL.sound{B:Nat}{w0 w:World}{g:Gh}{h:AH}(r:Rel B w0 g h w):∀{xs bs:List AV}{vs:List Value},RdL h xs bs->VL g xs vs->VL (g0 w) bs vs
 |_,_,_,.nil,hv=>by simpa only[VL]using hv
 |_,_,_,.cons x y,hv=>by
  simp only[VL]at hv ⊢;obtain⟨v,s,rfl,c,d⟩:=hv;exact⟨v,s,rfl,aV.sound r x c,RdL.sound r y d⟩
end
theorem vn{P:Program}{f:FuncId}{xs bs:List AV}{h:AH}{R:AV}{K:AV->AH->Prop}(j:RdL h xs bs)(hs:R.eO=true)(s:Spec P f bs h0 K)(d:∀a hh,K a hh->a=R) :
  Spec P f xs h (λa hh=>a=R/\hh=h) :=
 ⟨s.1,λB w0 _ g w vs r m=>by
  haveI:=zna (P:=P) r.below;refine(s.2 w.heap.size w (g0 w) w vs (zxs w) (j.sound r m)).mono ?_
  rintro e w' ⟨v,x,p,g',rfl,c,_,b,l⟩
  obtain rfl:=d _ _ c;exact⟨v,_,h,g,rfl,⟨rfl,rfl⟩,Gh.le.refl g,r.beyond b.below,V.eO hs l⟩⟩

theorem V.zzM{g:Gh}{k:Nat}{v:Value}{q:Nat}(d:V g (.gW ac k []) v):V ((g.fI ⟨0,ac,true⟩).ft ac) (.fo q g.τ.length k 0) v:=by
 simp only[V]at d ⊢;obtain⟨a,c,rfl,j,f,_,b⟩:=d;have b:c=0:=b;refine⟨a,c,rfl,j,f,⟨0,ac,true⟩,?_,rfl,ob _,.inl ⟨rfl,b⟩⟩;simp[Gh.fI,Gh.ft]
theorem zgK{g:Gh}{w:World}{k:Nat}:eA ((g.fI ⟨0,ac,true⟩).ft ac) w g.τ.length k [] :=
 ⟨⟨0,ac,true⟩,by simp[Gh.fI,Gh.ft],rfl,rfl,by simp,by simp,.inl rfl⟩
theorem ce.wk{hd h b:AH}{env a:List AV}(k:ce env h a b):wk hd env h a b:=λB w0 w _ f g vs _ c r d=>by
 obtain⟨g',k1,k2,k3⟩:=k B w0 w g vs r d;exact⟨g',c.trans k1,k2,k3,k1.del⟩
theorem q9{h:AH}{env b:List AV}{B:List q6}{T:List Nat}{d k m:Nat}(C:yy env (.tmp d)=aa (.gW ac k []))(z:B.length=n)(A:T.length=m)
  (s:tX (aa d) env (.fo (h.zh.length+n) (h.zs.length+m) k 0)=aa b) (D:B++[.row (h.zs.length+m) k []]=B') (y:T++[0]=T') :
  ce env (h.ext B T) b (h.ext B' T'):=λ_ _ w g vs r u=>by
 subst z A D y;simp only[tX,p5]at s;subst s;have c:g.τ.length=h.zs.length+T.length:=by rw[r.fA];simp[AH.ext]
 have f:=(g.fu ⟨0,ac,true⟩).trans (Gh.fd _ ac);have q:=r.ey ⟨0,ac,true⟩ k [] (λ_ _ _ h=>by cases h) (λ_ _ h=>by cases h) zgK;have e:(({ (h.ext B T)with zs:=(h.ext B T).zs++[0] }:AH).new (.row g.τ.length k []))=h.ext (B++[.row (h.zs.length+T.length) k []]) (T++[0]):=by
  rw[c];simp[AH.ext,AH.new,lf]
 rw[e]at q;refine⟨_,f,q,VL.dY (VL.mono f _ _ u) d _ λv l=>?_⟩;obtain⟨a,j,E⟩:=u.zzC _ _ l;have p:env[d]?=aa (.gW ac k []):=C;rw[p]at j;injection j with j;subst j;rw[<- c];exact E.zzM

mutual
inductive da(i k:Nat)(es:List (List AV)):AV->AV->Prop
 |same (a:AV):da i k es a a
 |hit (q:Nat):da i k es (.fo q i k es.length) (.sl k es)
 |fD (q n:Nat) (hn:n=es.length):da i k es (.fo q i k n) (.sl k es)
 |agg {cs bs:List AV} (x:eL i k es cs bs) (ho:bs.all AV.one=true):da i k es (.agg cs) (.agg bs)
 |fl {cs bs:List AV} (x:eL i k es cs bs):da i k es (.fl cs) (.fl bs)
inductive eL(i k:Nat)(es:List (List AV)):List AV->List AV->Prop
 |refl (xs:List AV):eL i k es xs xs
 |cons {a b:AV} {xs bs:List AV} (x:da i k es a b) (y:eL i k es xs bs):eL i k es (a::xs) (b::bs)
end
theorem eL.s{k:Nat}{es:List (List AV)}{a:AV}{xs bs:List AV}(y:eL i k es xs bs):eL i k es (a::xs) (a::bs):=.cons (.same _) y
theorem eL.s4{k:Nat}{es:List (List AV)}{a b c d:AV}{xs bs:List AV}(y:eL i k es xs bs):eL i k es (a::b::c::d::xs) (a::b::c::d::bs):=.s (.s (.s (.s y)))
theorem eL.ch{k:Nat}{es:List (List AV)}{a b c d e f g h j l m n o p q r:AV}{xs bs:List AV}(y:eL i k es xs bs):eL i k es (a::b::c::d::e::f::g::h::j::l::m::n::o::p::q::r::xs) (a::b::c::d::e::f::g::h::j::l::m::n::o::p::q::r::bs):=.s4 (.s4 (.s4 (.s4 y)))
mutual
theorem da.sound{g g':Gh}(c:g.le g'){i k:Nat}{es:List (List AV)}(d:∀q v,V g (.fo q i k es.length) v->V g' (.sl k es) v):∀{a b:AV}{v:Value},da i k es a b->V g a v->V g' b v
 |_,_,_,.same _,hv=>hv.mono c
 |_,_,_,.hit q,hv=>d q _ hv
 |_,_,_,.fD q n hn,hv=>by grind
 |_,_,_,.agg x ho,hv=>by
  simp only[V]at hv ⊢;obtain⟨vs,rfl,f⟩:=hv;exact⟨vs,rfl,VA.mk (eL.sound c d x f.f8) ho⟩
 |_,_,_,.fl x,hv=>by
  simp only[V]at hv ⊢;obtain⟨vs,rfl,f⟩:=hv;exact⟨vs,rfl,eL.sound c d x f⟩
theorem eL.sound{g g':Gh}(c:g.le g'){i k:Nat}{es:List (List AV)}(d:∀q v,V g (.fo q i k es.length) v->V g' (.sl k es) v):∀{xs bs:List AV}{vs:List Value},eL i k es xs bs->VL g xs vs->VL g' bs vs
 |_,_,_,.refl _,hv=>hv.mono c
 |_,_,_,.cons x y,hv=>by
  simp only[VL]at hv ⊢;obtain⟨v,s,rfl,f,j⟩:=hv;exact⟨v,s,rfl,da.sound c d x f,eL.sound c d y j⟩
end
theorem yc{h:AH}{env a:List AV}{B:List q6}{T:List Nat}{j m k:Nat}{es:List (List AV)}(f:B[j]?=aa (.row (h.zs.length+m) k es))(q:eL (h.zs.length+m) k es env a)
  (v:B.set j .dead=B') (l:T.set m (es.length+1)=T'):ce env (h.ext B T) a (h.ext B' T'):=λ_ _ w g vs r u=>by
 subst v l;have c:(h.ext B T).zh[h.zh.length+j]?=aa (.row (h.zs.length+m) k es):=by
  simp only[AH.ext];rw[pa (by omega),m3];exact f
 obtain⟨g',b,d,p,s⟩:=r.freeze c;have e:({ (h.ext B T).put (h.zh.length+j) .dead with zs:=(h.ext B T).zs.set (h.zs.length+m) (es.length+1) }:AH)=h.ext (B.set j .dead) (T.set m (es.length+1)):=by
  simp only[AH.ext,AH.put,AH.mk.injEq]
  simp_all
 rw[e]at d;exact⟨g',b,d,q.sound b s u⟩

section
variable{α:Type}{row:α->List AV}{L M:List α}{k:Nat}
theorem p9(a:∀x,(row x).length=k):∀L:List α,(L.map row).flatten.length=L.length*k
 |[]=>by simp
 |x::t=>by simp only[m4,lO,oA,nr,p9 a t,a x,ju];omega
theorem zdo(a:∀x,(row x).length=k):∀(L:List α)(i:Nat),(L.map row).flatten.drop (i*k)=((L.drop i).map row).flatten
 |[],i=>by simp
 |x::t,0=>by simp
 |x::t,i+1=>by
  rw[m4,lO,ju,gO,<- kf,iZ (a x),zdo a t i];rfl
theorem zdn(a:∀x,(row x).length=k):∀(L:List α)(i:Nat),(L.map row).flatten.take (i*k)=((L.take i).map row).flatten
 |[],i=>by simp
 |x::t,0=>by simp
 |x::t,i+1=>by
  rw[m4,lO,ju,gO,kx,lh (by simp_all),a x,m3,zdn a t i];rfl
theorem znr{y:α}(a:L[i]?=aa y):L.drop i=y::L.drop (i+1):=by
 obtain⟨h,rfl⟩:=tu.1 a
 simp_all
theorem zrv(b:∀x,(row x).length=k){ag:Bool}{m i off:Nat}{y:α}{v:AV}(d:L[i]?=aa y)(a:cj ag m off (row y)=aa v)(j:0<m):cj ag m (i*k+off) (L.map row).flatten=aa v:=by
 have e:(L.map row).flatten.drop (i*k)=row y++((L.drop (i+1)).map row).flatten:=by rw[zdo b,znr d];rfl
 have hi:i<L.length:=(tu.1 d).1;have f:(i+1)*k<=L.length*k:=lY k hi;rw[ju]at f;unfold cj at a ⊢;cases ag with
 |true =>
  simp only[oS]at a ⊢;split at a
  ·rename_i c;rw[b y]at c;rw[nK (by rw[p9 b];omega),<- kf,e,jv (by grind),lU (by grind)];exact a
  ·cases a
 |false =>
  simp only[s5,mb]at a ⊢;have l:off<(row y).length:=(tu.1 a).1;have:(L.map row).flatten[i*k+off]?=((L.map row).flatten.drop (i*k))[off]?:=by grind
  grind
theorem zfo(a:∀x,(row x).length=k):∀L:List α,rows k L.length (L.map row).flatten=L.map row
 |[]=>rfl
 |x::t=>by
  simp only[nr,rows,m4,lO];rw[gJ (a x),iZ (a x),zfo a t]
theorem zkM(a:∀x,(row x).length=k){i off:Nat}{y y':α}{vs:List AV}(c:L[i]?=aa y)(hs:yX (row y) off vs=row y')(l:off+vs.length<=k) :
  rows k L.length (yX (L.map row).flatten (i*k+off) vs)=(L.set i y').map row:=by
 have hi:i<L.length:=(tu.1 c).1;have f:(L.map row).flatten=((L.take i).map row).flatten++(row y++((L.drop (i+1)).map row).flatten):=by
  conv=>lhs;rw[<- kW i L,znr c]
  simp
 have b:((L.take i).map row).flatten.length=i*k:=by rw[p9 a,ke,j9 (by omega)]
 have j:yX (L.map row).flatten (i*k+off) vs=((L.set i y').map row).flatten:=by
  rw[List.set_eq_take_append_cons_drop,nK hi];simp only[lZ,m4,jl,lO,<- hs];rw[f];unfold yX;have d:=a y;rw[kx,b,lh (by omega),m3,lU (by omega)];rw[jA,jD,b,lW (by omega),m3,ll,jv (by omega)]
  simp_all
 rw[j];have:=zfo a (L.set i y')
 rwa[lm]at this
variable{P:Program}{o:Oper}{env:List AV}{h:AH}{B:List q6}{T:List Nat}
theorem zub{i:Operand}{id q:Nat}{d:IntKind}{z:Int}(b:o.op=.indexAddr t x i)(c:El P t e k)(f:yy env x=aa (.fo id q k n))(hi:yy env i=aa (.int d z))(a:0<=z/\z<n) :
  zj P o env h=.ok (.fW id q k n (z.toNat*k+0)) h:=zap b c f hi (by simp only[tA];rw[nK ⟨trivial,a.1,a.2⟩];rfl)
theorem vH(f:∀x,(row x).length=k){t:TypeId}{d:TypeDesc}{m i q n z off:Nat}{x:Operand}{y:α}{v a:AV}(l:o.op=.load t x)(b:Ty P t d m)(s:0<m)(r:yy env x=aa (.fW (h.zh.length+i) q k n (z*k+off)))
  (c:B[i]?=aa (.row q k (L.map row))) (A:L.length=n) (p:L[z]?=aa y) (u:cj (yd d) m off (row y)=aa v) (j:w5 P t v=a):zj P o env (h.ext B T)=.ok a (h.ext B T):=by
 refine zgG l b r ?_ j;simp only[sJ,zX,c];rw[nK ⟨trivial,trivial,by simp_all⟩];exact zrv f p u s
theorem qF(l:∀x,(row x).length=k){t:TypeId}{d:TypeDesc}{m i q n z off:Nat}{x w:Operand}{y y':α}{b j:AV}{vs us:List AV}{B':List q6}(C:o.op=.store t x w)(s:Ty P t d m)(D:yy env x=aa (.fW (h.zh.length+i) q k n (z*k+off)))
  (v:yy env w=aa b) (A:w5 P t b=j) (H:j.cells?=aa vs) (p:vs.length=m) (c:xO vs=aa us) (u:B[i]?=aa (.row q k (L.map row))) (E:L.length=n) (r:L[z]?=aa y) (F:off+m<=k)
  (hs:yX (row y) off us=row y') (G:B.set i (.row q k ((L.set z y').map row))=B'):zj P o env (h.ext B T)=.ok wb (h.ext B' T):=by
 refine zie C s D v A ?_;simp only[mI,H,zX,u];have f:z<L.length:=(tu.1 r).1;have a:(z+1)*k<=L.length*k:=lY k f;rw[ju]at a;rw[nK ⟨trivial,trivial,by simp_all,p,by rw[p9 l];omega⟩,c];simp only[<- E];rw[zkM l r hs (by rw[tW c,p];omega),vU,G]
theorem zeM{c:Call}{y:Operand}{u s:TypeId}{k' j:Nat}{a b p:AV}(v:o.op=.call c)(H:c.callee=.builtin .append)(hs:c.args=#[x,y])(q:c.argTypes=#[t,u])(C:El P t e k)
  (f:El P u s k') (D:yy env x=aa a) (A:yy env y=aa b) (G:w5 P t a=.fo (h.zh.length+i) (h.zs.length+j) k n) (r:w5 P u b=p) (E:oU k p=aa (M.map row)) (K:L.length+M.length<=lim)
  (hi:B[i]?=aa (.row (h.zs.length+j) k (L.map row))) (l:L.length=n) (F:T[j]?=aa n) (m:B.set i (.row (h.zs.length+j) k ((L++M).map row))=B') (d:T.set j (L++M).length=T') :
  zj P o env (h.ext B T)=.ok (.fo (h.zh.length+i) (h.zs.length+j) k (L++M).length) (h.ext B' T'):=by
 subst l;refine zfm v H hs q C f D A G r E ?_;simp only[pq,oa];by_cases h0:M.length=0
 ·have:M=[]:=lA h0;subst this;simp only[ko]at m d ⊢;simp only[lC,oS];have N:B.set i (.row (h.zs.length+j) k (L.map row))=B:=by
   refine lT λz=>?_
   grind
  have J:T.set j L.length=T:=by
   refine lT λz=>?_
   grind
  simp_all
 ·rw[n4 h0,zX,hi];simp only;have I:(h.ext B T).zs[h.zs.length+j]?=aa L.length:=by simp only[AH.ext];rw[pa (by omega),m3];exact F
  rw[nK (by simp_all)];rw[vU];simp only[AH.ext,jg _ _ (nv _ _),m3,<- lZ,oA]at m d ⊢;rw[m,d]
end
end Go.Vv
namespace Go.Vv
open Go Go.RowKit
variable{env' a5:List AV}{j m n i:Nat}{f:FuncId}{K:AV->AH->Prop}{v:AV}{B1:List q6}{T1:List Nat}{t e:TypeId}{x y:Operand}{kd:IntKind}{z:Int}

theorem eL.dj{i k:Nat}{es:List (List AV)}:∀{xs bs:List AV},eL i k es xs bs->xs.all AV.one=true->bs.all AV.one=true
 |_,_,.refl _,h=>h
 |_,_,.cons x y,h=>by
  simp only[l7,tx]at h ⊢;refine⟨?_,y.dj h.2⟩;cases x with
  |same=>exact h.1
  |hit=>rfl
  |fD=>rfl
  |agg=>simp[AV.one]at h
  |fl=>simp[AV.one]at h
theorem tH{h:AH}{env:List AV}{B B':List q6}{T T':List Nat}{jb k:Nat}{es:List (List AV)}{cs cs':List AV}(F:B[j]?=aa (.row (h.zs.length+m) k es))(M:eL (h.zs.length+m) k es env env')
  (E:B[jb]?=aa (.cells cs)) (d:eL (h.zs.length+m) k es cs cs') (O:(B.set j .dead).set jb (.cells cs')=B') (H:T.set m (es.length+1)=T'):ce env (h.ext B T) env' (h.ext B' T'):=λ_ _ w g vs r N=>by
 subst O H;have u:(h.ext B T).zh[h.zh.length+j]?=aa (.row (h.zs.length+m) k es):=by
  simp only[AH.ext];rw[pa (by omega),m3];exact F
 have b:(h.ext B T).zh[h.zh.length+jb]?=aa (.cells cs):=by
  simp only[AH.ext];rw[pa (by omega),m3];exact E
 have p:j≠jb:=by grind
 obtain⟨g',a,A,I,C⟩:=r.freeze u;have e:({ (h.ext B T).put (h.zh.length+j) .dead with zs:=(h.ext B T).zs.set (h.zs.length+m) (es.length+1) }:AH)=h.ext (B.set j .dead) (T.set m (es.length+1)):=by
  simp only[AH.ext,AH.put,AH.mk.injEq]
  simp_all
 rw[e]at A;have q:h.zh.length+jb<g.σ.length:=by rw[r.fi];exact(tu.1 b).1
 obtain⟨x,s⟩:∃x,g.σ[h.zh.length+jb]?=aa x:=⟨_,rk q⟩
 cases x with
 |none=>exact(r.row _ _ s b).elim
 |some c =>
  obtain⟨_,_,⟨us,t,k1,k2⟩,_⟩:=r.g7 _ c _ s b;have G:(h.ext (B.set j .dead) (T.set m (es.length+1))).zh[h.zh.length+jb]?=aa (.cells cs):=by
   simp only[AH.ext];rw[pa (by omega),m3,lR p];exact E
  have l:=a.sig _ _ s;have D:=A.putObj (k':=.cells cs') l G (by simp) rfl rfl rfl rfl (λ_ _=>rfl) ⟨us,t,k1,VA.mk (d.sound a C k2.f8) (d.dj k2.dj)⟩;have J:(h.ext (B.set j .dead) (T.set m (es.length+1))).put (h.zh.length+jb) (.cells cs')=h.ext ((B.set j .dead).set jb (.cells cs')) (T.set m (es.length+1)):=by
   simp only[AH.ext,AH.put,AH.mk.injEq,kA]
   simp_all
  rw[J]at D;exact⟨g',a,D,M.sound a C N⟩
theorem ua{P : Program}{fn : Func}{c : Code}(hf : P.funcs[f]? = aa fn)(hb : fn.body = aa c)(hname : (fn.name == "runtime.NumGoroutine") = false){args : List AV}{h : AH}{K : AV→AH→Prop}{env : List AV}
  (he:args++List.replicate (fn.ntmps-args.length) wb=env) (hw:vi P c (pi P fn h K) env h):Spec P f args h K:=zbM hf hb hname (by simp_all)
theorem zki{h:AH}{B0 B L:List q6}{T0 T M:List Nat}{a:AV}(l:B0++L=B)(g:T0++M=T)(c:g6 v a)(d:a.low (h.ext B0 T0).zh.length (h.ext B0 T0).zs.length=true)(b:K a (h.ext B0 T0)):nQ (h.ext B0 T0) K v (h.ext B T):=by
 subst l g;rw[<- x5];exact wm c d b
theorem zeI{h0 h:AH}(a:K v h):nQ h0 K v h:=wv (wk.refl _ _ _) a
theorem zpg{h:AH}{k:Nat}(a:K (.fo h.zh.length h.zs.length k 0) (h.ext [.row h.zs.length k []] [0])):nQ h K (.gW ac k []) (h.ext [] []) :=
 wv (q9 (env:=[.gW ac k []]) (d:=0) rfl rfl rfl rfl rfl rfl).wk a
theorem zol{P:Program}{h:AH}{B:List q6}{T:List Nat}{b:q6}(s:Spec P f a5 ((h.ext B1 T1).ext [b] [n]) (λa hh=>a=v/\hh=(h.ext B1 T1).ext [b] [n]))(d:B1++[b]=B)(c:T1++[n]=T) :
  Spec P f a5 (h.ext B T) (λa hh=>a=v/\hh=h.ext B T):=by
 subst d c;rw[x5]at s;exact s
def zpN(h:AH)(bl tl k m:Nat)(R:List (List AV))(rr:AV)(hh:AH):Prop:=rr=.fo (bl+1) (tl+1) k m/\∃n0,hh=h.ext [.dead,.row (tl+1) k R] [n0,m]
theorem zci{P:Program}{a:Array Oper}{Q:List AV->AH->Prop}{o:Oper}{rest:List Oper}{env:List AV}{h:AH}{B B':List q6}{T:List Nat}{args:List AV}{b:q6}{k:Nat}{R:List (List AV)}(g:aG a o env=aa true)(s:zj P o env (h.ext B T)=.call f args)
  (hs:Spec P f args ((h.ext B1 T1).ext [b] [n]) (zpN (h.ext B1 T1) (h.zh.length+j) (h.zs.length+i) k m R)) (u:B1++[b]=B) (l:T1++[n]=T)
  (hd:tX o.dst env (.fo (h.zh.length+(j+1)) (h.zs.length+(i+1)) k m)=aa env') (c:B1++[.dead,.row (h.zs.length+(i+1)) k R]=B') (w:∀d,zx P a Q rest env' (h.ext B' (T1++[d,m]))):zx P a Q (o::rest) env (h.ext B T):=by
 subst u l c;rw[x5]at hs;refine pU g s hs λr A ⟨q,d,p⟩=>?_;subst q;subst p;rw[x5];rw[yU (v:=.fo (h.zh.length+j+1) (h.zs.length+i+1) k m) (by omega)]
 grind
theorem nO{h0 h:AH}{α:Type}{row:α->List AV}{L:List α}{k:Nat}(u:K (.fo (h.zh.length+1) (h.zs.length+1) k L.length) (h.ext [.dead,.row (h.zs.length+1) k (L.map row)] [L.length+1,L.length])) :
  nQ h0 K (.fo (h.zh.length+0) (h.zs.length+0) k L.length) (h.ext [.row (h.zs.length+0) k (L.map row)] [L.length]):=by
 refine wv (ce.wk λB w0 w g vs r l=>?_) u;simp only[VL]at l;obtain⟨v,s,rfl,p,rfl⟩:=l;have q:(h.ext [.row (h.zs.length+0) k (L.map row)] [L.length]).g7 (h.zh.length+0)=aa (.row (h.zs.length+0) k (L.map row)):=by rw[zX];rfl
 have d:=p;simp only[V]at d;obtain⟨a,c,rfl,_⟩:=d;have b:(L.map row).length=L.length:=oa ..;obtain⟨g',A,C,E⟩:=r.shrink (n:=L.length) (a':=a) q (by omega) (.inl rfl) (by rw[b];exact p);refine⟨g',A,?_,VL.cons ?_ (by simp[VL])⟩
 ·have e:(h.ext [.row (h.zs.length+0) k (L.map row)] [L.length]).shr (h.zh.length+0) (h.zs.length+0) k L.length (L.map row)=h.ext [.dead,.row (h.zs.length+1) k (L.map row)] [L.length+1,L.length]:=by
   simp only[AH.shr,AH.ext,AH.put,AH.new,b,AH.mk.injEq,oA,kM,ja]
   grind
  simp_all
 ·have F:(h.ext [q6.row (h.zs.length+0) k (L.map row)] [L.length]).zh.length=h.zh.length+1:=by simp[AH.ext]
  have D:(h.ext [q6.row (h.zs.length+0) k (L.map row)] [L.length]).zs.length=h.zs.length+1:=by simp[AH.ext]
  simp_all
def zsq(h:AH)(k m:Nat)(R:List (List AV))(rr:AV)(hh:AH):Prop:=rr=.fo h.zh.length h.zs.length k m/\hh=h.ext [.row h.zs.length k R] [m]
theorem zqK{P:Program}{h:AH}{B B':List q6}{T T':List Nat}{k:Nat}{R:List (List AV)}(s:Spec P f a5 (h.ext B T) (zsq (h.ext B T) k m R))(b:B.length=j)(hi:T.length=i)(g:B++[.row (h.zs.length+i) k R]=B')(d:T++[m]=T') :
  Spec P f a5 (h.ext B T) (λl hh=>l=.fo (h.zh.length+j) (h.zs.length+i) k m/\hh=h.ext B' T'):=by
 refine s.mono ?_
 rintro r p ⟨rfl,rfl⟩
 subst b hi g d;have c:(h.ext B T).zh.length=h.zh.length+B.length:=by simp[AH.ext]
 have a:(h.ext B T).zs.length=h.zs.length+T.length:=by simp[AH.ext]
 exact⟨by rw[c,a],by rw[x5,a]⟩
theorem zi3{α:Type}{L:List α}{d:α}(h:L.length=n)(a:m<=n):(L.take m++List.replicate (n-m) d).length=n:=by
 simp;omega
section
variable{α:Type}{row:α->List AV}{L:List α}{k:Nat}{P:Program}{o:Oper}{env:List AV}{h:AH}{B B':List q6}{T T':List Nat}
theorem zhx{id q:Nat}(b:o.op=.slice t x (aa y) ac ac)(a:El P t e k)(r:yy env x=aa (.fo id q k n))(c:yy env y=aa (.int kd z))(s:0<=z/\z<=n) :
  xN P o env h=aa [(.ep id q k n z.toNat,h)]:=by
 obtain⟨l,d⟩:=zF r;obtain⟨p,g⟩:=zF c;obtain⟨i,hi,hs,_⟩:=a.i;simp only[xN,b,l,d,p,g,a.u,hi,hs,lB,oS]
 simp_all
theorem znq(a:∀x,(row x).length=k){d:α}{t e:TypeId}{x:Operand}{c:Call}{i q n m:Nat}{z:List AV}(E:o.op=.call c)(M:c.callee=.builtin .clear)(I:c.args=#[x])(p:c.argTypes=#[t])(s:El P t e k)(D:yY P e=aa z)(b:xO z=aa (row d))
  (F:yy env x=aa (.ep (h.zh.length+i) q k n m)) (A:B[i]?=aa (.row q k (L.map row))) (G:L.length=n) (O:m<=n) (J:B.set i (.row q k ((L.take m++List.replicate (n-m) d).map row))=B') :
  xN P o env (h.ext B T)=aa [(.fl [],h.ext B' T)]:=by
 obtain⟨C,w⟩:=zF F;obtain⟨_,_,_,_,g,_⟩:=s.i;subst G J;have l:z.length=k:=by rw[<- tW b,a d]
 simp only[xN,E,M,I,p,C,w,oS,s.u,D,zX,A];rw[nK ⟨⟨trivial,trivial,by simp⟩,l,g⟩,b];simp only[AH.clr,vU,oa];have H:yX (L.map row).flatten (m*k) (zn2 (row d) L.length m)=((L.take m++List.replicate (L.length-m) d).map row).flatten:=by
  have r:(zn2 (row d) L.length m).length=(L.length-m)*k:=by simp[zn2,a d]
  unfold yX;rw[zdn a,r,lW (by rw[p9 a,<- ka];exact lY k (by omega))];simp[zn2,List.map_replicate]
 rw[H];have N:=zfo a (L.take m++List.replicate (L.length-m) d)
 simp_all
theorem zeL{c t':Nat}{M:List α}(w:o.op=.slice t x ac (aa y) ac)(d:El P t e k)(E:yy env x=aa (.fo (h.zh.length+i) (h.zs.length+j) k n))(C:yy env y=aa (.int kd z))
  (p:B[i]?=aa (.row (h.zs.length+j) k (L.map row))) (F:L.length=n) (l:fP L 0 z=aa M) (a:B.length=c) (b:T.length=t') (H:B.set i .dead++[.row (h.zs.length+t') k (M.map row)]=B') (r:T.set j (n+1)++[M.length]=T') :
  xN P o env (h.ext B T)=aa [(.fo (h.zh.length+c) (h.zs.length+t') k M.length,h.ext B' T')]:=by
 obtain⟨s,g⟩:=zF E;obtain⟨D,q⟩:=zF C;obtain⟨N,hi,hs,_⟩:=d.i;obtain⟨⟨J,G,I⟩,rfl⟩:=zxq l;subst F a b H r;simp only[xN,w,s,g,D,q,d.u,hi,lB,oS,zX,p];rw[nK ⟨⟨trivial,trivial,by simp⟩,G,by omega⟩];have A:((L.take z.toNat).drop (0:Int).toNat).length=z.toNat:=by simp;omega
 have hd:(L.take z.toNat).drop (0:Int).toNat=L.take z.toNat:=rfl;rw[A,hd];simp only[AH.shr,AH.ext,AH.put,AH.new,oA,p5,List.cons.injEq,kG,AH.mk.injEq,kA,oa,gq]
 simp_all
theorem wN{n:Int}{y:α}(h:zR L n=aa y):0<=n/\n<L.length/\L[n.toNat]?=aa y:=by
 unfold zR at h
 grind
theorem y8{y:α}(h:zR L z=aa y)(c:L.length=n):0<=z/\z<n:=by
 obtain⟨b,a,_⟩:=wN h;omega
end
def cS{α:Type}(xs:List α)(z:Int)(M:List α):Option (List α):=if(0<=z/\z<=xs.length)/\0<M.length/\xs.length+M.length<=lim then aa (xs.take z.toNat++(M++xs.drop z.toNat))else ac
end Go.Vv
